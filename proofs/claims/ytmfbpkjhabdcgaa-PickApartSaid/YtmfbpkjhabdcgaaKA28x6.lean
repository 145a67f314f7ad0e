/- Part 6 of A28: what the functions reckon, step by step, and plain laws. No condition. -/
import Derived.Test.YtmfbpkjhabdcgaaKA28x5
section
-- Written by fork.py (this session's program over the kit's print.py). Not trusted: Lean checks it.
namespace Go.Proofs.Ytmfbpkjhabdcgaa.F
open Go.RowKit Go.Proofs.YtmfbpkjhabdcgaaW.PrintWords Go.Proofs.YtmfbpkjhabdcgaaW.PrintLast Go.Proofs.YtmfbpkjhabdcgaaW.PrintMore
attribute [local go_sem] max2_int min2_int max_two min_two max_three min_three max_four min_four
set_option linter.unusedVariables false
set_option linter.unusedSimpArgs false

attribute [local go_sem high] eqA29
/-! ### L28_by: function 70 -/
def L28_by.f (k : Nat) (a0_0 : Int) (a0_1 : Int) (a0_2 : Int) (a0_3 : Int) (a0_4 : Int) (a0_5 : Int) (a0_6 : Int) (a0_7 : Int) (a0_8 : Int) (l0_9 : List (S29)) (a1_0 : Int) (a1_1 : Int) (a1_2 : Int) (a1_3 : Int) : Option (Bool) := (L28_four.f).bind fun bt785 => ((pick_By.f k bt785.1 bt785.2 a0_0 a0_1 a0_2 a0_3 a0_4 a0_5 a0_6 a0_7 a0_8 l0_9).bind fun bt789 => (if (bt789.1 == a1_0 && (bt789.2.1 == a1_1 && (bt789.2.2.1 == a1_2 && (bt789.2.2.2.1 == a1_3)))) = true then (if bt789.2.2.2.2.1 = true then (some (bt789.2.2.2.2.2 == 0)) else (some false)) else (some false)))
theorem L28_by.mono : ∀ a0 a1 a2 a3 a4 a5 a6 a7 a8 a9 a10 a11 a12 a13 k, LeO (L28_by.f k a0 a1 a2 a3 a4 a5 a6 a7 a8 a9 a10 a11 a12 a13) (L28_by.f (k + 1) a0 a1 a2 a3 a4 a5 a6 a7 a8 a9 a10 a11 a12 a13) := by
  intro a0 a1 a2 a3 a4 a5 a6 a7 a8 a9 a10 a11 a12 a13 k
  unfold L28_by.f
  repeat' first
      | (with_reducible exact pick_By.mono _ _ _ _ _ _ _ _ _ _ _ _ _)
      | (with_reducible exact LeO.refl _)
      | (with_reducible exact LeO.none _)
      | (with_reducible refine LeO.ite ?_ ?_)
      | (with_reducible refine LeO.bind ?_ (fun _ => ?_))
      | exact pick_By.mono _ _ _ _ _ _ _ _ _ _ _ _ _
      | exact LeO.none _
      | refine LeO.ite ?_ ?_
      | refine LeO.bind ?_ (fun _ => ?_)
def L28_by.T1 : Bool × List (List Nat × List Nat) := (true, [([], []), ([], []), ([0, 1, 0], [0, 1]), ([2], [2]), ([3], [3]), ([3], [3]), ([3], [3]), ([], []), ([7, 4, 2, 0, 1, 2, 3, 4, 7], [4, 7]), ([5, 8, 0, 1, 2, 3, 4, 5, 7, 8], [5]), ([6, 9, 0, 1, 2, 3, 4, 5, 6, 7, 8, 9], [6])])
def L28_by.B1 : List Nat := [0, 0, 3, 7, 15, 15, 15, 0, 159, 447, 1023]
theorem L28_by.tab1 : rtab .any (opsOf Try.f70 1) = L28_by.T1 := by kernel_rfl
theorem L28_by.bits1 : waitsOk L28_by.T1.2 L28_by.B1 = true := by kernel_rfl
set_option maxHeartbeats 8000000 in
set_option maxRecDepth 100000 in
theorem L28_by.calls (k : Nat) (a0_0 : Int) (a0_1 : Int) (a0_2 : Int) (a0_3 : Int) (a0_4 : Int) (a0_5 : Int) (a0_6 : Int) (a0_7 : Int) (a0_8 : Int) (A0_9 : Option Addr) (c0_9 : Nat) (l0_9 : List (S29)) (a1_0 : Int) (a1_1 : Int) (a1_2 : Int) (a1_3 : Int) (r : Bool) (w : World) (hr0_9 : Kd.C k29 w A0_9 l0_9.length l0_9) (hc0_9 : l0_9.length ≤ c0_9) (h : L28_by.f k a0_0 a0_1 a0_2 a0_3 a0_4 a0_5 a0_6 a0_7 a0_8 l0_9 a1_0 a1_1 a1_2 a1_3 = some r) (ht_ : r = true := by rfl) :
    Calls Try.prog 70 #[.agg #[.int .i64 a0_0, .int .i64 a0_1, .int .i64 a0_2, .int .i64 a0_3, .int .i64 a0_4, .int .i64 a0_5, .int .i64 a0_6, .int .i64 a0_7, .int .i64 a0_8, .slice A0_9 l0_9.length c0_9], .agg #[.int .i64 a1_0, .int .i64 a1_1, .int .i64 a1_2, .int .i64 a1_3]] w fun e w' => e = .returned (.bool r) ∧ Below w.heap.size w w' := by
  subst ht_
  have hu60 := Try.underlying60
  have hu29 := Try.underlying29
  have HR0_9 := Aside0.mk hr0_9
  have HC0_9 := Aside0.mk hc0_9
  clear hr0_9 hc0_9
  have HB := Aside0.mk (Below.refl w.heap.size w)
  have H : ((L28_four.f).bind fun bt785 => ((pick_By.f k bt785.1 bt785.2 a0_0 a0_1 a0_2 a0_3 a0_4 a0_5 a0_6 a0_7 a0_8 l0_9).bind fun bt789 => (if (bt789.1 == a1_0 && (bt789.2.1 == a1_1 && (bt789.2.2.1 == a1_2 && (bt789.2.2.2.1 == a1_3)))) = true then (if bt789.2.2.2.2.1 = true then (some (bt789.2.2.2.2.2 == 0)) else (some false)) else (some false)))) = some true := h
  clear h
  replace H := Option.bind_eq_some_iff.mp H
  obtain ⟨⟨t785, t786⟩, A30, H⟩ := H
  replace H : ((pick_By.f k t785 t786 a0_0 a0_1 a0_2 a0_3 a0_4 a0_5 a0_6 a0_7 a0_8 l0_9).bind fun bt789 => (if (bt789.1 == a1_0 && (bt789.2.1 == a1_1 && (bt789.2.2.1 == a1_2 && (bt789.2.2.2.1 == a1_3)))) = true then (if bt789.2.2.2.2.1 = true then (some (bt789.2.2.2.2.2 == 0)) else (some false)) else (some false))) = some true := H
  have A3 := Aside0.mk A30
  clear A30
  replace H := Option.bind_eq_some_iff.mp H
  obtain ⟨⟨t789, t790, t791, t792, t793, t794⟩, A40, H⟩ := H
  replace H : (if (t789 == a1_0 && (t790 == a1_1 && (t791 == a1_2 && (t792 == a1_3)))) = true then (if t793 = true then (some (t794 == 0)) else (some false)) else (some false)) = some true := H
  have A4 := Aside0.mk A40
  clear A40
  by_cases c5 : (t789 == a1_0 && (t790 == a1_1 && (t791 == a1_2 && (t792 == a1_3)))) = true
  rotate_left
  · rw [if_neg c5] at H
    exact absurd H (by repeat (first | exact never_none | exact never_false | refine never_ite ?_ ?_ | refine never_bind (fun _ => ?_)))
  rw [if_pos c5] at H
  have c5b0 : (t789 == a1_0 && (t790 == a1_1 && (t791 == a1_2 && (t792 == a1_3)))) = true := c5
  (try (have c5b1 : decide (t789 = a1_0 && (t790 == a1_1 && (t791 == a1_2 && (t792 == a1_3)))) = true := by simpa using c5))
  (try (have c5b2 : (t789 == a1_0 && (t790 == a1_1 && (t791 == a1_2 && (t792 == a1_3)))) = true := by simpa using c5))
  clear c5
  by_cases c6 : t793 = true
  rotate_left
  · replace c6 := Bool.eq_false_iff.mpr c6
    subst c6
    have H1 : (some false) = some true := by rw [if_neg (show ¬ (false = true) by decide)] at H; exact H
    clear H
    have H := H1
    clear H1
    exact absurd H (by repeat (first | exact never_none | exact never_false | refine never_ite ?_ ?_ | refine never_bind (fun _ => ?_)))
  subst c6
  have H1 : (some (t794 == 0)) = some true := by rw [if_pos rfl] at H; exact H
  clear H
  have H := H1
  clear H1
  have Hret_ := Option.some.inj H
  clear H
  (try simp only [Bool.and_eq_true] at Hret_)
  go_enter Try.func70, Try.ntmps70
  try go_wp2_with (first | ((with_reducible refine gate_dst (N := 2) rfl ?_); refine box_event ?hg (N := 2) ?hd (cs := #[.int .i64 a0_0, .int .i64 a0_1, .int .i64 a0_2, .int .i64 a0_3, .int .i64 a0_4, .int .i64 a0_5, .int .i64 a0_6, .int .i64 a0_7, .int .i64 a0_8, .slice A0_9 l0_9.length c0_9]) (t := 60) ?hr ?_; (case hd => rfl); (case hg => rfl); (case hr => first | (go_simp; done) | (go_simp; rfl)); intro gb783 hg w7 hbox hb; have n0_ := Aside0.mk (below_step (by repeat (first | (with_reducible first | exact HB.out | apply below_alloc | apply pw_below_drewN | apply below_drew1) | exact HB.out)) hb); have n1_ := Aside0.mk (hbox); have n2_ := Aside0.mk ((by rw [hg]; exact (below_size (by repeat (first | (with_reducible first | exact HB.out | apply below_alloc | apply pw_below_drewN | apply below_drew1) | exact HB.out))) : w.heap.size ≤ gb783)); have n3_ := Aside0.mk ((by rw [hg]; exact (below_size (by repeat (first | (with_reducible first | exact HB.out | apply below_alloc | apply pw_below_drewN | apply below_drew1) | exact HB.out))) : w.heap.size ≤ gb783)); clear HB; have HB := n0_; have BK783 := n1_; have GW783 := n2_; have GE783 := n3_; clear n0_ n1_ n2_ n3_; clear hb hbox hg) | ((with_reducible refine gate_dst (N := 3) rfl ?_); refine box_event ?hg (N := 3) ?hd (cs := #[.int .i64 a1_0, .int .i64 a1_1, .int .i64 a1_2, .int .i64 a1_3]) (t := 29) ?hr ?_; (case hd => rfl); (case hg => rfl); (case hr => first | (go_simp; done) | (go_simp; rfl)); intro gb784 hg w8 hbox hb; have n0_ := Aside0.mk (blk_below (g := gb783) (o := .cells #[.int .i64 a0_0, .int .i64 a0_1, .int .i64 a0_2, .int .i64 a0_3, .int .i64 a0_4, .int .i64 a0_5, .int .i64 a0_6, .int .i64 a0_7, .int .i64 a0_8, .slice A0_9 l0_9.length c0_9] 60 (0, 0)) (by (with_reducible repeat (first | refine blk_drewN ?_ _ | refine blk_drew ?_ | refine blk_alloc ?_ _)); exact BK783.out) hb); have n1_ := Aside0.mk (below_step (by repeat (first | (with_reducible first | exact HB.out | apply below_alloc | apply pw_below_drewN | apply below_drew1 | refine below_set ?_ GE783.out) | exact HB.out)) hb); have n2_ := Aside0.mk (hbox); have n3_ := Aside0.mk ((by rw [hg]; exact (below_size (by repeat (first | (with_reducible first | exact HB.out | apply below_alloc | apply pw_below_drewN | apply below_drew1 | refine below_set ?_ GE783.out) | exact HB.out))) : w.heap.size ≤ gb784)); have n4_ := Aside0.mk ((by rw [hg]; exact (below_size (by repeat (first | (with_reducible first | exact HB.out | apply below_alloc | apply pw_below_drewN | apply below_drew1 | refine below_set ?_ GE783.out) | exact HB.out))) : w.heap.size ≤ gb784)); have n5_ := Aside0.mk ((by rw [hg]; exact Nat.ne_of_lt (blk_lt (g := gb783) (o := .cells #[.int .i64 a0_0, .int .i64 a0_1, .int .i64 a0_2, .int .i64 a0_3, .int .i64 a0_4, .int .i64 a0_5, .int .i64 a0_6, .int .i64 a0_7, .int .i64 a0_8, .slice A0_9 l0_9.length c0_9] 60 (0, 0)) (by (with_reducible repeat (first | refine blk_drewN ?_ _ | refine blk_drew ?_ | refine blk_alloc ?_ _)); exact BK783.out)) : gb783 ≠ gb784)); have n6_ := Aside0.mk ((by rw [hg]; exact Nat.ne_of_gt (blk_lt (g := gb783) (o := .cells #[.int .i64 a0_0, .int .i64 a0_1, .int .i64 a0_2, .int .i64 a0_3, .int .i64 a0_4, .int .i64 a0_5, .int .i64 a0_6, .int .i64 a0_7, .int .i64 a0_8, .slice A0_9 l0_9.length c0_9] 60 (0, 0)) (by (with_reducible repeat (first | refine blk_drewN ?_ _ | refine blk_drew ?_ | refine blk_alloc ?_ _)); exact BK783.out)) : gb784 ≠ gb783)); clear BK783; clear HB; have BK783 := n0_; have HB := n1_; have BK784 := n2_; have GW784 := n3_; have GE784 := n4_; have NB783_784 := n5_; have NB784_783 := n6_; clear n0_ n1_ n2_ n3_ n4_ n5_ n6_; clear hb hbox hg))
  have n0_ := Aside0.mk (blk_drew BK783.out)
  have n1_ := Aside0.mk (blk_drew BK784.out)
  have n2_ := Aside0.mk (below_drew1 HB.out)
  clear BK783
  clear BK784
  clear HB
  have BK783 := n0_
  have BK784 := n1_
  have HB := n2_
  clear n0_ n1_ n2_
  refine start_ (n := 11) (S := fun w' => w'.cell? ⟨gb783, 0, none⟩ = some (.int .i64 a0_0) ∧ w'.cell? ⟨gb783, 1, none⟩ = some (.int .i64 a0_1) ∧ w'.cell? ⟨gb783, 2, none⟩ = some (.int .i64 a0_2) ∧ w'.cell? ⟨gb783, 3, none⟩ = some (.int .i64 a0_3) ∧ w'.cell? ⟨gb783, 4, none⟩ = some (.int .i64 a0_4) ∧ w'.cell? ⟨gb783, 5, none⟩ = some (.int .i64 a0_5) ∧ w'.cell? ⟨gb783, 6, none⟩ = some (.int .i64 a0_6) ∧ w'.cell? ⟨gb783, 7, none⟩ = some (.int .i64 a0_7) ∧ w'.cell? ⟨gb783, 8, none⟩ = some (.int .i64 a0_8) ∧ w'.cell? ⟨gb783, 9, none⟩ = some (.slice A0_9 l0_9.length c0_9)) (ds := []) #[false, false, false, false, false, false, false, false, false, false, false] (by kernel_rfl) rfl rfl ⟨(blk_cell BK783.out 0).trans rfl, (blk_cell BK783.out 1).trans rfl, (blk_cell BK783.out 2).trans rfl, (blk_cell BK783.out 3).trans rfl, (blk_cell BK783.out 4).trans rfl, (blk_cell BK783.out 5).trans rfl, (blk_cell BK783.out 6).trans rfl, (blk_cell BK783.out 7).trans rfl, (blk_cell BK783.out 8).trans rfl, (blk_cell BK783.out 9).trans rfl⟩ (fun hHeld => ?_); refine with_tabW L28_by.tab1 L28_by.bits1 (fun HT_ HW_ => ?_)
  generalize w8.drew = w9 at BK783 BK784 HB hHeld ⊢
  refine take_ (i := 1) (N := some 10) (v := ?_) (a' := ?_) #[false, true, false, false, false, false, false, false, false, false, false] rfl rfl (take_ofW HT_.out HW_.out (by kernel_rfl)) (fun _ _ _ h => h) (Or.inl ⟨by rfl, ?_⟩) hHeld ?_ ?_
  rotate_left
  · rintro w' ⟨s0, s1, s2, s3, s4, s5, s6, s7, s8, s9⟩
    go_simp
    with_reducible rfl
  rotate_left
  · simp only [Act.put, List.setIfInBounds_toArray, List.set_cons_zero, List.set_cons_succ, i64_w, i32_w]
    rfl
  refine join_ (σ := Value × Nat) 3 #[true, true, true, true, true, true, true, true, false, false, false] (fun s_ => [(9, .agg #[.int .i64 t785, s_.1]), (11, .tuple #[.agg #[.int .i64 t789, .int .i64 t790, .int .i64 t791, .int .i64 t792], .bool true, .int .i64 t794]), (5, .pointer (some ⟨s_.2, 0, none⟩)), (8, .tuple #[.agg #[.int .i64 t789, .int .i64 t790, .int .i64 t791, .int .i64 t792], .bool true, .int .i64 t794]), (12, .agg #[.int .i64 t789, .int .i64 t790, .int .i64 t791, .int .i64 t792]), (13, .bool true), (14, .int .i64 t794)]) (fun s_ w' => (w'.cell? ⟨gb783, 0, none⟩ = some (.int .i64 a0_0) ∧ w'.cell? ⟨gb783, 1, none⟩ = some (.int .i64 a0_1) ∧ w'.cell? ⟨gb783, 2, none⟩ = some (.int .i64 a0_2) ∧ w'.cell? ⟨gb783, 3, none⟩ = some (.int .i64 a0_3) ∧ w'.cell? ⟨gb783, 4, none⟩ = some (.int .i64 a0_4) ∧ w'.cell? ⟨gb783, 5, none⟩ = some (.int .i64 a0_5) ∧ w'.cell? ⟨gb783, 6, none⟩ = some (.int .i64 a0_6) ∧ w'.cell? ⟨gb783, 7, none⟩ = some (.int .i64 a0_7) ∧ w'.cell? ⟨gb783, 8, none⟩ = some (.int .i64 a0_8) ∧ w'.cell? ⟨gb783, 9, none⟩ = some (.slice A0_9 l0_9.length c0_9)) ∧ (Kd.R k29 29 w' w.heap.size (fun k_ => k_ ≠ gb784 ∧ k_ ≠ s_.2) s_.1 t786) ∧ (w'.heap[gb783]? = some (.cells #[.int .i64 a0_0, .int .i64 a0_1, .int .i64 a0_2, .int .i64 a0_3, .int .i64 a0_4, .int .i64 a0_5, .int .i64 a0_6, .int .i64 a0_7, .int .i64 a0_8, .slice A0_9 l0_9.length c0_9] 60 (0, 0))) ∧ (w'.heap[gb784]? = some (.cells #[.int .i64 a1_0, .int .i64 a1_1, .int .i64 a1_2, .int .i64 a1_3] 29 (0, 0))) ∧ (w'.heap[s_.2]? = some (.cells #[.int .i64 0, .int .i64 0, .int .i64 0, .int .i64 0] 29 (0, 0))) ∧ (w.heap.size ≤ s_.2) ∧ (w.heap.size ≤ s_.2) ∧ (gb783 ≠ s_.2) ∧ (s_.2 ≠ gb783) ∧ (gb784 ≠ s_.2) ∧ (s_.2 ≠ gb784) ∧ (Below w.heap.size w w')) ?_ ?_
  rotate_left
  · intro hCont
    refine two_ (i := 0) (j := 7) (Ni := some 9) (Nj := some 5) #[true, true, false, false, false, false, false, false, false, false, false] #[false, true, false, false, false, false, false, true, false, false, false] rfl rfl rfl rfl (two_of HT_.out (by kernel_rfl)) (by decide) (by decide) (fun K hK => ?_) (fun K hK => ?_)
    · skip
      refine goes_ Try.func75 (by kernel_rfl) rfl #[] (by rfl) rfl rfl (by (try simp only [List.map_toArray, List.map_cons, List.map_nil]); first | done | rfl | (simp only [List.length_drop, List.length_take]; rfl)) ?_
      with_reducible refine (L28_four.calls  t785 t786 _ A3.out).mono ?_
      rintro e w10 ⟨v787, rfl, ho0, hb⟩
      refine ⟨_, rfl, ?_⟩
      have n0_ := Aside0.mk (Kd.R_lower (Kd.R_newB ho0 (g := gb784) (o := .cells #[.int .i64 a1_0, .int .i64 a1_1, .int .i64 a1_2, .int .i64 a1_3] 29 (0, 0)) (by (with_reducible repeat (first | refine blk_drewN ?_ _ | refine blk_drew ?_ | refine blk_alloc ?_ _)); exact BK784.out)) (below_size (by repeat (first | (with_reducible first | exact HB.out | apply below_alloc | apply pw_below_drewN | apply below_drew1 | refine below_set ?_ GE783.out | refine below_set ?_ GE784.out) | exact HB.out))))
      have n1_ := Aside0.mk (blk_below (g := gb783) (o := .cells #[.int .i64 a0_0, .int .i64 a0_1, .int .i64 a0_2, .int .i64 a0_3, .int .i64 a0_4, .int .i64 a0_5, .int .i64 a0_6, .int .i64 a0_7, .int .i64 a0_8, .slice A0_9 l0_9.length c0_9] 60 (0, 0)) (by (with_reducible repeat (first | refine blk_drewN ?_ _ | refine blk_drew ?_ | refine blk_alloc ?_ _)); exact BK783.out) hb)
      have n2_ := Aside0.mk (blk_below (g := gb784) (o := .cells #[.int .i64 a1_0, .int .i64 a1_1, .int .i64 a1_2, .int .i64 a1_3] 29 (0, 0)) (by (with_reducible repeat (first | refine blk_drewN ?_ _ | refine blk_drew ?_ | refine blk_alloc ?_ _)); exact BK784.out) hb)
      have n3_ := Aside0.mk (below_step (by repeat (first | (with_reducible first | exact HB.out | apply below_alloc | apply pw_below_drewN | apply below_drew1 | refine below_set ?_ GE783.out | refine below_set ?_ GE784.out) | exact HB.out)) hb)
      clear BK783
      clear BK784
      clear HB
      have HO788 := n0_
      have BK783 := n1_
      have BK784 := n2_
      have HB := n3_
      clear n0_ n1_ n2_ n3_
      (try clear hb)
      (try clear hb2)
      (try clear hk)
      (try clear hi)
      (try clear ho0)
      obtain ⟨Ao11, co11, eo11⟩ := Kd.R_slice HO788.out
      (first | subst eo11 | (injection eo11 with f1_ f2_ f3_; have f4_ := f1_.symm; have f5_ := f3_.symm; clear f1_ f2_ f3_; subst f4_; subst f5_))
      refine hK.out _ _ ⟨(blk_cell BK783.out 0).trans rfl, (blk_cell BK783.out 1).trans rfl, (blk_cell BK783.out 2).trans rfl, (blk_cell BK783.out 3).trans rfl, (blk_cell BK783.out 4).trans rfl, (blk_cell BK783.out 5).trans rfl, (blk_cell BK783.out 6).trans rfl, (blk_cell BK783.out 7).trans rfl, (blk_cell BK783.out 8).trans rfl, (blk_cell BK783.out 9).trans rfl⟩ (fun hHeld => ?_)
      clear hK K
      refine norm_ (a' := ?_) ?_ ?_
      rotate_left
      · show Act.put _ (some 9) _ = _
        simp only [Act.put, List.setIfInBounds_toArray, List.set_cons_zero, List.set_cons_succ, i64_w, i32_w]
        rfl
      refine two_ (i := 2) (j := 7) (Ni := some 11) (Nj := some 5) #[true, true, true, false, false, false, false, false, false, false, false] #[true, true, false, false, false, false, false, true, false, false, false] rfl rfl rfl rfl (two_of HT_.out (by kernel_rfl)) (by decide) (by decide) (fun K hK => ?_) (fun K hK => ?_)
      · skip
        refine goes_ Try.func56 (by kernel_rfl) rfl #[.agg #[.int .i64 t785, .slice Ao11 t786.length co11], .agg #[.int .i64 a0_0, .int .i64 a0_1, .int .i64 a0_2, .int .i64 a0_3, .int .i64 a0_4, .int .i64 a0_5, .int .i64 a0_6, .int .i64 a0_7, .int .i64 a0_8, .slice A0_9 l0_9.length c0_9]] (by rfl) rfl rfl (by (try simp only [List.map_toArray, List.map_cons, List.map_nil]); first | done | rfl | (simp only [List.length_drop, List.length_take]; rfl)) ?_
        with_reducible refine (pick_By.calls k t785 _ _ t786 a0_0 a0_1 a0_2 a0_3 a0_4 a0_5 a0_6 a0_7 a0_8 _ _ l0_9 t789 t790 t791 t792 true t794 _ ?side1 ?side2 ?side3 ?side4 A4.out).mono ?_
        (case side1 => repeat (first | exact (Kd.R_reads' HO788.out).2.2 | (with_reducible refine Kd.C_alloc ?_ _) | (with_reducible refine Kd.C_drewN ?_ _) | (with_reducible refine Kd.C_drew ?_)))
        (case side2 => exact (Kd.R_reads' HO788.out).2.1)
        (case side3 => repeat (first | exact (Kd.C_below HR0_9.out HB.out) | (with_reducible refine Kd.C_alloc ?_ _) | (with_reducible refine Kd.C_drewN ?_ _) | (with_reducible refine Kd.C_drew ?_)))
        (case side4 => exact HC0_9.out)
        rintro e w12 ⟨rfl, hb⟩
        refine ⟨_, rfl, ?_⟩
        have n0_ := Aside0.mk (Kd.R_below (by (with_reducible repeat (first | apply Kd.R_alloc | apply Kd.R_drewN | apply Kd.R_drew)); exact HO788.out) hb)
        have n1_ := Aside0.mk (blk_below (g := gb783) (o := .cells #[.int .i64 a0_0, .int .i64 a0_1, .int .i64 a0_2, .int .i64 a0_3, .int .i64 a0_4, .int .i64 a0_5, .int .i64 a0_6, .int .i64 a0_7, .int .i64 a0_8, .slice A0_9 l0_9.length c0_9] 60 (0, 0)) (by (with_reducible repeat (first | refine blk_drewN ?_ _ | refine blk_drew ?_ | refine blk_alloc ?_ _)); exact BK783.out) hb)
        have n2_ := Aside0.mk (blk_below (g := gb784) (o := .cells #[.int .i64 a1_0, .int .i64 a1_1, .int .i64 a1_2, .int .i64 a1_3] 29 (0, 0)) (by (with_reducible repeat (first | refine blk_drewN ?_ _ | refine blk_drew ?_ | refine blk_alloc ?_ _)); exact BK784.out) hb)
        have n3_ := Aside0.mk (below_step (by repeat (first | (with_reducible first | exact HB.out | apply below_alloc | apply pw_below_drewN | apply below_drew1 | refine below_set ?_ GE783.out | refine below_set ?_ GE784.out) | exact HB.out)) hb)
        clear HO788
        clear BK783
        clear BK784
        clear HB
        have HO788 := n0_
        have BK783 := n1_
        have BK784 := n2_
        have HB := n3_
        clear n0_ n1_ n2_ n3_
        (try clear hb)
        (try clear hb2)
        (try clear hk)
        (try clear hi)
        refine hK.out _ _ ⟨(blk_cell BK783.out 0).trans rfl, (blk_cell BK783.out 1).trans rfl, (blk_cell BK783.out 2).trans rfl, (blk_cell BK783.out 3).trans rfl, (blk_cell BK783.out 4).trans rfl, (blk_cell BK783.out 5).trans rfl, (blk_cell BK783.out 6).trans rfl, (blk_cell BK783.out 7).trans rfl, (blk_cell BK783.out 8).trans rfl, (blk_cell BK783.out 9).trans rfl⟩ (fun hHeld => ?_)
        clear hK K
        refine norm_ (a' := ?_) ?_ ?_
        rotate_left
        · show Act.put _ (some 11) _ = _
          simp only [Act.put, List.setIfInBounds_toArray, List.set_cons_zero, List.set_cons_succ, i64_w, i32_w]
          rfl
        refine pure_ (i := 3) (N := some 8) (v := ?_) (a' := ?_) #[true, true, true, true, false, false, false, false, false, false, false] rfl rfl (any_of HT_.out (by kernel_rfl)) (fun _ _ _ h => h) (Or.inl ⟨by rfl, ?_⟩) ?_ ?_
        rotate_left
        · intro w'
          go_simp
          with_reducible rfl
        rotate_left
        · simp only [Act.put, List.setIfInBounds_toArray, List.set_cons_zero, List.set_cons_succ, i64_w, i32_w]
          rfl
        refine pure_ (i := 4) (N := some 12) (v := ?_) (a' := ?_) #[true, true, true, true, true, false, false, false, false, false, false] rfl rfl (any_of HT_.out (by kernel_rfl)) (fun _ _ _ h => h) (Or.inl ⟨by rfl, ?_⟩) ?_ ?_
        rotate_left
        · intro w'
          go_simp
          with_reducible rfl
        rotate_left
        · simp only [Act.put, List.setIfInBounds_toArray, List.set_cons_zero, List.set_cons_succ, i64_w, i32_w]
          rfl
        refine pure_ (i := 5) (N := some 13) (v := ?_) (a' := ?_) #[true, true, true, true, true, true, false, false, false, false, false] rfl rfl (any_of HT_.out (by kernel_rfl)) (fun _ _ _ h => h) (Or.inl ⟨by rfl, ?_⟩) ?_ ?_
        rotate_left
        · intro w'
          go_simp
          with_reducible rfl
        rotate_left
        · simp only [Act.put, List.setIfInBounds_toArray, List.set_cons_zero, List.set_cons_succ, i64_w, i32_w]
          rfl
        refine pure_ (i := 6) (N := some 14) (v := ?_) (a' := ?_) #[true, true, true, true, true, true, true, false, false, false, false] rfl rfl (any_of HT_.out (by kernel_rfl)) (fun _ _ _ h => h) (Or.inl ⟨by rfl, ?_⟩) ?_ ?_
        rotate_left
        · intro w'
          go_simp
          with_reducible rfl
        rotate_left
        · simp only [Act.put, List.setIfInBounds_toArray, List.set_cons_zero, List.set_cons_succ, i64_w, i32_w]
          rfl
        refine one_ (i := 7) (N := some 5) #[true, true, true, true, true, true, true, true, false, false, false] rfl rfl (one_of HT_.out (by kernel_rfl)) (by decide) (fun K hK => ?_)
        refine box_step ?hg (N := 5) ?hd (cs := #[.int .i64 0, .int .i64 0, .int .i64 0, .int .i64 0]) (t := 29) ?hr ?_; (case hd => rfl); (case hg => rfl); (case hr => first | (go_simp; done) | (go_simp; rfl))
        intro gb795 hg w13 hbox hb
        have n0_ := Aside0.mk (Kd.R_below (Kd.R_elderB (by (with_reducible repeat (first | apply Kd.R_alloc | apply Kd.R_drewN | apply Kd.R_drew)); exact HO788.out) gb795 (Nat.le_of_eq hg.symm)) hb)
        have n1_ := Aside0.mk (blk_below (g := gb783) (o := .cells #[.int .i64 a0_0, .int .i64 a0_1, .int .i64 a0_2, .int .i64 a0_3, .int .i64 a0_4, .int .i64 a0_5, .int .i64 a0_6, .int .i64 a0_7, .int .i64 a0_8, .slice A0_9 l0_9.length c0_9] 60 (0, 0)) (by (with_reducible repeat (first | refine blk_drewN ?_ _ | refine blk_drew ?_ | refine blk_alloc ?_ _)); exact BK783.out) hb)
        have n2_ := Aside0.mk (blk_below (g := gb784) (o := .cells #[.int .i64 a1_0, .int .i64 a1_1, .int .i64 a1_2, .int .i64 a1_3] 29 (0, 0)) (by (with_reducible repeat (first | refine blk_drewN ?_ _ | refine blk_drew ?_ | refine blk_alloc ?_ _)); exact BK784.out) hb)
        have n3_ := Aside0.mk (below_step (by repeat (first | (with_reducible first | exact HB.out | apply below_alloc | apply pw_below_drewN | apply below_drew1 | refine below_set ?_ GE783.out | refine below_set ?_ GE784.out) | exact HB.out)) hb)
        have n4_ := Aside0.mk (hbox)
        have n5_ := Aside0.mk ((by rw [hg]; exact (below_size (by repeat (first | (with_reducible first | exact HB.out | apply below_alloc | apply pw_below_drewN | apply below_drew1 | refine below_set ?_ GE783.out | refine below_set ?_ GE784.out) | exact HB.out))) : w.heap.size ≤ gb795))
        have n6_ := Aside0.mk ((by rw [hg]; exact (below_size (by repeat (first | (with_reducible first | exact HB.out | apply below_alloc | apply pw_below_drewN | apply below_drew1 | refine below_set ?_ GE783.out | refine below_set ?_ GE784.out) | exact HB.out))) : w.heap.size ≤ gb795))
        have n7_ := Aside0.mk ((by rw [hg]; exact Nat.ne_of_lt (blk_lt (g := gb783) (o := .cells #[.int .i64 a0_0, .int .i64 a0_1, .int .i64 a0_2, .int .i64 a0_3, .int .i64 a0_4, .int .i64 a0_5, .int .i64 a0_6, .int .i64 a0_7, .int .i64 a0_8, .slice A0_9 l0_9.length c0_9] 60 (0, 0)) (by (with_reducible repeat (first | refine blk_drewN ?_ _ | refine blk_drew ?_ | refine blk_alloc ?_ _)); exact BK783.out)) : gb783 ≠ gb795))
        have n8_ := Aside0.mk ((by rw [hg]; exact Nat.ne_of_gt (blk_lt (g := gb783) (o := .cells #[.int .i64 a0_0, .int .i64 a0_1, .int .i64 a0_2, .int .i64 a0_3, .int .i64 a0_4, .int .i64 a0_5, .int .i64 a0_6, .int .i64 a0_7, .int .i64 a0_8, .slice A0_9 l0_9.length c0_9] 60 (0, 0)) (by (with_reducible repeat (first | refine blk_drewN ?_ _ | refine blk_drew ?_ | refine blk_alloc ?_ _)); exact BK783.out)) : gb795 ≠ gb783))
        have n9_ := Aside0.mk ((by rw [hg]; exact Nat.ne_of_lt (blk_lt (g := gb784) (o := .cells #[.int .i64 a1_0, .int .i64 a1_1, .int .i64 a1_2, .int .i64 a1_3] 29 (0, 0)) (by (with_reducible repeat (first | refine blk_drewN ?_ _ | refine blk_drew ?_ | refine blk_alloc ?_ _)); exact BK784.out)) : gb784 ≠ gb795))
        have n10_ := Aside0.mk ((by rw [hg]; exact Nat.ne_of_gt (blk_lt (g := gb784) (o := .cells #[.int .i64 a1_0, .int .i64 a1_1, .int .i64 a1_2, .int .i64 a1_3] 29 (0, 0)) (by (with_reducible repeat (first | refine blk_drewN ?_ _ | refine blk_drew ?_ | refine blk_alloc ?_ _)); exact BK784.out)) : gb795 ≠ gb784))
        clear HO788
        clear BK783
        clear BK784
        clear HB
        have HO788 := n0_
        have BK783 := n1_
        have BK784 := n2_
        have HB := n3_
        have BK795 := n4_
        have GW795 := n5_
        have GE795 := n6_
        have NB783_795 := n7_
        have NB795_783 := n8_
        have NB784_795 := n9_
        have NB795_784 := n10_
        clear n0_ n1_ n2_ n3_ n4_ n5_ n6_ n7_ n8_ n9_ n10_
        clear hb hbox hg
        refine hK.out _ _ ⟨(blk_cell BK783.out 0).trans rfl, (blk_cell BK783.out 1).trans rfl, (blk_cell BK783.out 2).trans rfl, (blk_cell BK783.out 3).trans rfl, (blk_cell BK783.out 4).trans rfl, (blk_cell BK783.out 5).trans rfl, (blk_cell BK783.out 6).trans rfl, (blk_cell BK783.out 7).trans rfl, (blk_cell BK783.out 8).trans rfl, (blk_cell BK783.out 9).trans rfl⟩ (fun hHeld => ?_)
        clear hK K
        refine norm_ (a' := ?_) ?_ ?_
        rotate_left
        · show Act.put _ (some 5) _ = _
          simp only [Act.put, List.setIfInBounds_toArray, List.set_cons_zero, List.set_cons_succ, i64_w, i32_w]
          rfl
        exact norm_ (by simp only [putAll, Act.put, List.setIfInBounds_toArray, List.set_cons_zero, List.set_cons_succ]) (hCont (.slice Ao11 t786.length co11, gb795) _ ⟨hHeld, (by (with_reducible repeat (first | apply Kd.R_alloc | apply Kd.R_drewN | apply Kd.R_drew)); exact Kd.R_mono HO788.out (fun _ hk => ⟨hk.1.2, hk.2⟩)), (by (with_reducible repeat (first | refine blk_drewN ?_ _ | refine blk_drew ?_ | refine blk_alloc ?_ _)); exact BK783.out), (by (with_reducible repeat (first | refine blk_drewN ?_ _ | refine blk_drew ?_ | refine blk_alloc ?_ _)); exact BK784.out), (by (with_reducible repeat (first | refine blk_drewN ?_ _ | refine blk_drew ?_ | refine blk_alloc ?_ _)); exact BK795.out), GW795.out, GE795.out, NB783_795.out, NB795_783.out, NB784_795.out, NB795_784.out, (by repeat (first | (with_reducible first | exact HB.out | apply below_alloc | apply pw_below_drewN | apply below_drew1 | refine below_set ?_ GE783.out | refine below_set ?_ GE784.out | refine below_set ?_ GE795.out) | exact HB.out))⟩)
      · skip
        refine box_step ?hg (N := 5) ?hd (cs := #[.int .i64 0, .int .i64 0, .int .i64 0, .int .i64 0]) (t := 29) ?hr ?_; (case hd => rfl); (case hg => rfl); (case hr => first | (go_simp; done) | (go_simp; rfl))
        intro gb795 hg w11 hbox hb
        have n0_ := Aside0.mk (Kd.R_below (Kd.R_elderB (by (with_reducible repeat (first | apply Kd.R_alloc | apply Kd.R_drewN | apply Kd.R_drew)); exact HO788.out) gb795 (Nat.le_of_eq hg.symm)) hb)
        have n1_ := Aside0.mk (blk_below (g := gb783) (o := .cells #[.int .i64 a0_0, .int .i64 a0_1, .int .i64 a0_2, .int .i64 a0_3, .int .i64 a0_4, .int .i64 a0_5, .int .i64 a0_6, .int .i64 a0_7, .int .i64 a0_8, .slice A0_9 l0_9.length c0_9] 60 (0, 0)) (by (with_reducible repeat (first | refine blk_drewN ?_ _ | refine blk_drew ?_ | refine blk_alloc ?_ _)); exact BK783.out) hb)
        have n2_ := Aside0.mk (blk_below (g := gb784) (o := .cells #[.int .i64 a1_0, .int .i64 a1_1, .int .i64 a1_2, .int .i64 a1_3] 29 (0, 0)) (by (with_reducible repeat (first | refine blk_drewN ?_ _ | refine blk_drew ?_ | refine blk_alloc ?_ _)); exact BK784.out) hb)
        have n3_ := Aside0.mk (below_step (by repeat (first | (with_reducible first | exact HB.out | apply below_alloc | apply pw_below_drewN | apply below_drew1 | refine below_set ?_ GE783.out | refine below_set ?_ GE784.out) | exact HB.out)) hb)
        have n4_ := Aside0.mk (hbox)
        have n5_ := Aside0.mk ((by rw [hg]; exact (below_size (by repeat (first | (with_reducible first | exact HB.out | apply below_alloc | apply pw_below_drewN | apply below_drew1 | refine below_set ?_ GE783.out | refine below_set ?_ GE784.out) | exact HB.out))) : w.heap.size ≤ gb795))
        have n6_ := Aside0.mk ((by rw [hg]; exact (below_size (by repeat (first | (with_reducible first | exact HB.out | apply below_alloc | apply pw_below_drewN | apply below_drew1 | refine below_set ?_ GE783.out | refine below_set ?_ GE784.out) | exact HB.out))) : w.heap.size ≤ gb795))
        have n7_ := Aside0.mk ((by rw [hg]; exact Nat.ne_of_lt (blk_lt (g := gb783) (o := .cells #[.int .i64 a0_0, .int .i64 a0_1, .int .i64 a0_2, .int .i64 a0_3, .int .i64 a0_4, .int .i64 a0_5, .int .i64 a0_6, .int .i64 a0_7, .int .i64 a0_8, .slice A0_9 l0_9.length c0_9] 60 (0, 0)) (by (with_reducible repeat (first | refine blk_drewN ?_ _ | refine blk_drew ?_ | refine blk_alloc ?_ _)); exact BK783.out)) : gb783 ≠ gb795))
        have n8_ := Aside0.mk ((by rw [hg]; exact Nat.ne_of_gt (blk_lt (g := gb783) (o := .cells #[.int .i64 a0_0, .int .i64 a0_1, .int .i64 a0_2, .int .i64 a0_3, .int .i64 a0_4, .int .i64 a0_5, .int .i64 a0_6, .int .i64 a0_7, .int .i64 a0_8, .slice A0_9 l0_9.length c0_9] 60 (0, 0)) (by (with_reducible repeat (first | refine blk_drewN ?_ _ | refine blk_drew ?_ | refine blk_alloc ?_ _)); exact BK783.out)) : gb795 ≠ gb783))
        have n9_ := Aside0.mk ((by rw [hg]; exact Nat.ne_of_lt (blk_lt (g := gb784) (o := .cells #[.int .i64 a1_0, .int .i64 a1_1, .int .i64 a1_2, .int .i64 a1_3] 29 (0, 0)) (by (with_reducible repeat (first | refine blk_drewN ?_ _ | refine blk_drew ?_ | refine blk_alloc ?_ _)); exact BK784.out)) : gb784 ≠ gb795))
        have n10_ := Aside0.mk ((by rw [hg]; exact Nat.ne_of_gt (blk_lt (g := gb784) (o := .cells #[.int .i64 a1_0, .int .i64 a1_1, .int .i64 a1_2, .int .i64 a1_3] 29 (0, 0)) (by (with_reducible repeat (first | refine blk_drewN ?_ _ | refine blk_drew ?_ | refine blk_alloc ?_ _)); exact BK784.out)) : gb795 ≠ gb784))
        clear HO788
        clear BK783
        clear BK784
        clear HB
        have HO788 := n0_
        have BK783 := n1_
        have BK784 := n2_
        have HB := n3_
        have BK795 := n4_
        have GW795 := n5_
        have GE795 := n6_
        have NB783_795 := n7_
        have NB795_783 := n8_
        have NB784_795 := n9_
        have NB795_784 := n10_
        clear n0_ n1_ n2_ n3_ n4_ n5_ n6_ n7_ n8_ n9_ n10_
        clear hb hbox hg
        obtain ⟨Ao12, co12, eo12⟩ := Kd.R_slice HO788.out
        (first | subst eo12 | (injection eo12 with f1_ f2_ f3_; have f4_ := f1_.symm; have f5_ := f3_.symm; clear f1_ f2_ f3_; subst f4_; subst f5_))
        refine hK.out _ _ ⟨(blk_cell BK783.out 0).trans rfl, (blk_cell BK783.out 1).trans rfl, (blk_cell BK783.out 2).trans rfl, (blk_cell BK783.out 3).trans rfl, (blk_cell BK783.out 4).trans rfl, (blk_cell BK783.out 5).trans rfl, (blk_cell BK783.out 6).trans rfl, (blk_cell BK783.out 7).trans rfl, (blk_cell BK783.out 8).trans rfl, (blk_cell BK783.out 9).trans rfl⟩ (fun hHeld => ?_)
        clear hK K
        refine norm_ (a' := ?_) ?_ ?_
        rotate_left
        · show Act.put _ (some 5) _ = _
          simp only [Act.put, List.setIfInBounds_toArray, List.set_cons_zero, List.set_cons_succ, i64_w, i32_w]
          rfl
        refine one_ (i := 2) (N := some 11) #[true, true, true, false, false, false, false, true, false, false, false] rfl rfl (one_of HT_.out (by kernel_rfl)) (by decide) (fun K hK => ?_)
        refine goes_ Try.func56 (by kernel_rfl) rfl #[.agg #[.int .i64 t785, .slice Ao12 t786.length co12], .agg #[.int .i64 a0_0, .int .i64 a0_1, .int .i64 a0_2, .int .i64 a0_3, .int .i64 a0_4, .int .i64 a0_5, .int .i64 a0_6, .int .i64 a0_7, .int .i64 a0_8, .slice A0_9 l0_9.length c0_9]] (by rfl) rfl rfl (by (try simp only [List.map_toArray, List.map_cons, List.map_nil]); first | done | rfl | (simp only [List.length_drop, List.length_take]; rfl)) ?_
        with_reducible refine (pick_By.calls k t785 _ _ t786 a0_0 a0_1 a0_2 a0_3 a0_4 a0_5 a0_6 a0_7 a0_8 _ _ l0_9 t789 t790 t791 t792 true t794 _ ?side1 ?side2 ?side3 ?side4 A4.out).mono ?_
        (case side1 => repeat (first | exact (Kd.R_reads' HO788.out).2.2 | (with_reducible refine Kd.C_alloc ?_ _) | (with_reducible refine Kd.C_drewN ?_ _) | (with_reducible refine Kd.C_drew ?_)))
        (case side2 => exact (Kd.R_reads' HO788.out).2.1)
        (case side3 => repeat (first | exact (Kd.C_below HR0_9.out HB.out) | (with_reducible refine Kd.C_alloc ?_ _) | (with_reducible refine Kd.C_drewN ?_ _) | (with_reducible refine Kd.C_drew ?_)))
        (case side4 => exact HC0_9.out)
        rintro e w13 ⟨rfl, hb⟩
        refine ⟨_, rfl, ?_⟩
        have n0_ := Aside0.mk (Kd.R_below (by (with_reducible repeat (first | apply Kd.R_alloc | apply Kd.R_drewN | apply Kd.R_drew)); exact HO788.out) hb)
        have n1_ := Aside0.mk (blk_below (g := gb783) (o := .cells #[.int .i64 a0_0, .int .i64 a0_1, .int .i64 a0_2, .int .i64 a0_3, .int .i64 a0_4, .int .i64 a0_5, .int .i64 a0_6, .int .i64 a0_7, .int .i64 a0_8, .slice A0_9 l0_9.length c0_9] 60 (0, 0)) (by (with_reducible repeat (first | refine blk_drewN ?_ _ | refine blk_drew ?_ | refine blk_alloc ?_ _)); exact BK783.out) hb)
        have n2_ := Aside0.mk (blk_below (g := gb784) (o := .cells #[.int .i64 a1_0, .int .i64 a1_1, .int .i64 a1_2, .int .i64 a1_3] 29 (0, 0)) (by (with_reducible repeat (first | refine blk_drewN ?_ _ | refine blk_drew ?_ | refine blk_alloc ?_ _)); exact BK784.out) hb)
        have n3_ := Aside0.mk (blk_below (g := gb795) (o := .cells #[.int .i64 0, .int .i64 0, .int .i64 0, .int .i64 0] 29 (0, 0)) (by (with_reducible repeat (first | refine blk_drewN ?_ _ | refine blk_drew ?_ | refine blk_alloc ?_ _)); exact BK795.out) hb)
        have n4_ := Aside0.mk (below_step (by repeat (first | (with_reducible first | exact HB.out | apply below_alloc | apply pw_below_drewN | apply below_drew1 | refine below_set ?_ GE783.out | refine below_set ?_ GE784.out | refine below_set ?_ GE795.out) | exact HB.out)) hb)
        clear HO788
        clear BK783
        clear BK784
        clear BK795
        clear HB
        have HO788 := n0_
        have BK783 := n1_
        have BK784 := n2_
        have BK795 := n3_
        have HB := n4_
        clear n0_ n1_ n2_ n3_ n4_
        (try clear hb)
        (try clear hb2)
        (try clear hk)
        (try clear hi)
        refine hK.out _ _ ⟨(blk_cell BK783.out 0).trans rfl, (blk_cell BK783.out 1).trans rfl, (blk_cell BK783.out 2).trans rfl, (blk_cell BK783.out 3).trans rfl, (blk_cell BK783.out 4).trans rfl, (blk_cell BK783.out 5).trans rfl, (blk_cell BK783.out 6).trans rfl, (blk_cell BK783.out 7).trans rfl, (blk_cell BK783.out 8).trans rfl, (blk_cell BK783.out 9).trans rfl⟩ (fun hHeld => ?_)
        clear hK K
        refine norm_ (a' := ?_) ?_ ?_
        rotate_left
        · show Act.put _ (some 11) _ = _
          simp only [Act.put, List.setIfInBounds_toArray, List.set_cons_zero, List.set_cons_succ, i64_w, i32_w]
          rfl
        refine pure_ (i := 3) (N := some 8) (v := ?_) (a' := ?_) #[true, true, true, true, false, false, false, true, false, false, false] rfl rfl (any_of HT_.out (by kernel_rfl)) (fun _ _ _ h => h) (Or.inl ⟨by rfl, ?_⟩) ?_ ?_
        rotate_left
        · intro w'
          go_simp
          with_reducible rfl
        rotate_left
        · simp only [Act.put, List.setIfInBounds_toArray, List.set_cons_zero, List.set_cons_succ, i64_w, i32_w]
          rfl
        refine pure_ (i := 4) (N := some 12) (v := ?_) (a' := ?_) #[true, true, true, true, true, false, false, true, false, false, false] rfl rfl (any_of HT_.out (by kernel_rfl)) (fun _ _ _ h => h) (Or.inl ⟨by rfl, ?_⟩) ?_ ?_
        rotate_left
        · intro w'
          go_simp
          with_reducible rfl
        rotate_left
        · simp only [Act.put, List.setIfInBounds_toArray, List.set_cons_zero, List.set_cons_succ, i64_w, i32_w]
          rfl
        refine pure_ (i := 5) (N := some 13) (v := ?_) (a' := ?_) #[true, true, true, true, true, true, false, true, false, false, false] rfl rfl (any_of HT_.out (by kernel_rfl)) (fun _ _ _ h => h) (Or.inl ⟨by rfl, ?_⟩) ?_ ?_
        rotate_left
        · intro w'
          go_simp
          with_reducible rfl
        rotate_left
        · simp only [Act.put, List.setIfInBounds_toArray, List.set_cons_zero, List.set_cons_succ, i64_w, i32_w]
          rfl
        refine pure_ (i := 6) (N := some 14) (v := ?_) (a' := ?_) #[true, true, true, true, true, true, true, true, false, false, false] rfl rfl (any_of HT_.out (by kernel_rfl)) (fun _ _ _ h => h) (Or.inl ⟨by rfl, ?_⟩) ?_ ?_
        rotate_left
        · intro w'
          go_simp
          with_reducible rfl
        rotate_left
        · simp only [Act.put, List.setIfInBounds_toArray, List.set_cons_zero, List.set_cons_succ, i64_w, i32_w]
          rfl
        exact norm_ (by simp only [putAll, Act.put, List.setIfInBounds_toArray, List.set_cons_zero, List.set_cons_succ]) (hCont (.slice Ao12 t786.length co12, gb795) _ ⟨hHeld, (by (with_reducible repeat (first | apply Kd.R_alloc | apply Kd.R_drewN | apply Kd.R_drew)); exact Kd.R_mono HO788.out (fun _ hk => ⟨hk.1.2, hk.2⟩)), (by (with_reducible repeat (first | refine blk_drewN ?_ _ | refine blk_drew ?_ | refine blk_alloc ?_ _)); exact BK783.out), (by (with_reducible repeat (first | refine blk_drewN ?_ _ | refine blk_drew ?_ | refine blk_alloc ?_ _)); exact BK784.out), (by (with_reducible repeat (first | refine blk_drewN ?_ _ | refine blk_drew ?_ | refine blk_alloc ?_ _)); exact BK795.out), GW795.out, GE795.out, NB783_795.out, NB795_783.out, NB784_795.out, NB795_784.out, (by repeat (first | (with_reducible first | exact HB.out | apply below_alloc | apply pw_below_drewN | apply below_drew1 | refine below_set ?_ GE783.out | refine below_set ?_ GE784.out | refine below_set ?_ GE795.out) | exact HB.out))⟩)
    · skip
      refine box_step ?hg (N := 5) ?hd (cs := #[.int .i64 0, .int .i64 0, .int .i64 0, .int .i64 0]) (t := 29) ?hr ?_; (case hd => rfl); (case hg => rfl); (case hr => first | (go_simp; done) | (go_simp; rfl))
      intro gb795 hg w10 hbox hb
      have n0_ := Aside0.mk (blk_below (g := gb783) (o := .cells #[.int .i64 a0_0, .int .i64 a0_1, .int .i64 a0_2, .int .i64 a0_3, .int .i64 a0_4, .int .i64 a0_5, .int .i64 a0_6, .int .i64 a0_7, .int .i64 a0_8, .slice A0_9 l0_9.length c0_9] 60 (0, 0)) (by (with_reducible repeat (first | refine blk_drewN ?_ _ | refine blk_drew ?_ | refine blk_alloc ?_ _)); exact BK783.out) hb)
      have n1_ := Aside0.mk (blk_below (g := gb784) (o := .cells #[.int .i64 a1_0, .int .i64 a1_1, .int .i64 a1_2, .int .i64 a1_3] 29 (0, 0)) (by (with_reducible repeat (first | refine blk_drewN ?_ _ | refine blk_drew ?_ | refine blk_alloc ?_ _)); exact BK784.out) hb)
      have n2_ := Aside0.mk (below_step (by repeat (first | (with_reducible first | exact HB.out | apply below_alloc | apply pw_below_drewN | apply below_drew1 | refine below_set ?_ GE783.out | refine below_set ?_ GE784.out) | exact HB.out)) hb)
      have n3_ := Aside0.mk (hbox)
      have n4_ := Aside0.mk ((by rw [hg]; exact (below_size (by repeat (first | (with_reducible first | exact HB.out | apply below_alloc | apply pw_below_drewN | apply below_drew1 | refine below_set ?_ GE783.out | refine below_set ?_ GE784.out) | exact HB.out))) : w.heap.size ≤ gb795))
      have n5_ := Aside0.mk ((by rw [hg]; exact (below_size (by repeat (first | (with_reducible first | exact HB.out | apply below_alloc | apply pw_below_drewN | apply below_drew1 | refine below_set ?_ GE783.out | refine below_set ?_ GE784.out) | exact HB.out))) : w.heap.size ≤ gb795))
      have n6_ := Aside0.mk ((by rw [hg]; exact Nat.ne_of_lt (blk_lt (g := gb783) (o := .cells #[.int .i64 a0_0, .int .i64 a0_1, .int .i64 a0_2, .int .i64 a0_3, .int .i64 a0_4, .int .i64 a0_5, .int .i64 a0_6, .int .i64 a0_7, .int .i64 a0_8, .slice A0_9 l0_9.length c0_9] 60 (0, 0)) (by (with_reducible repeat (first | refine blk_drewN ?_ _ | refine blk_drew ?_ | refine blk_alloc ?_ _)); exact BK783.out)) : gb783 ≠ gb795))
      have n7_ := Aside0.mk ((by rw [hg]; exact Nat.ne_of_gt (blk_lt (g := gb783) (o := .cells #[.int .i64 a0_0, .int .i64 a0_1, .int .i64 a0_2, .int .i64 a0_3, .int .i64 a0_4, .int .i64 a0_5, .int .i64 a0_6, .int .i64 a0_7, .int .i64 a0_8, .slice A0_9 l0_9.length c0_9] 60 (0, 0)) (by (with_reducible repeat (first | refine blk_drewN ?_ _ | refine blk_drew ?_ | refine blk_alloc ?_ _)); exact BK783.out)) : gb795 ≠ gb783))
      have n8_ := Aside0.mk ((by rw [hg]; exact Nat.ne_of_lt (blk_lt (g := gb784) (o := .cells #[.int .i64 a1_0, .int .i64 a1_1, .int .i64 a1_2, .int .i64 a1_3] 29 (0, 0)) (by (with_reducible repeat (first | refine blk_drewN ?_ _ | refine blk_drew ?_ | refine blk_alloc ?_ _)); exact BK784.out)) : gb784 ≠ gb795))
      have n9_ := Aside0.mk ((by rw [hg]; exact Nat.ne_of_gt (blk_lt (g := gb784) (o := .cells #[.int .i64 a1_0, .int .i64 a1_1, .int .i64 a1_2, .int .i64 a1_3] 29 (0, 0)) (by (with_reducible repeat (first | refine blk_drewN ?_ _ | refine blk_drew ?_ | refine blk_alloc ?_ _)); exact BK784.out)) : gb795 ≠ gb784))
      clear BK783
      clear BK784
      clear HB
      have BK783 := n0_
      have BK784 := n1_
      have HB := n2_
      have BK795 := n3_
      have GW795 := n4_
      have GE795 := n5_
      have NB783_795 := n6_
      have NB795_783 := n7_
      have NB784_795 := n8_
      have NB795_784 := n9_
      clear n0_ n1_ n2_ n3_ n4_ n5_ n6_ n7_ n8_ n9_
      clear hb hbox hg
      refine hK.out _ _ ⟨(blk_cell BK783.out 0).trans rfl, (blk_cell BK783.out 1).trans rfl, (blk_cell BK783.out 2).trans rfl, (blk_cell BK783.out 3).trans rfl, (blk_cell BK783.out 4).trans rfl, (blk_cell BK783.out 5).trans rfl, (blk_cell BK783.out 6).trans rfl, (blk_cell BK783.out 7).trans rfl, (blk_cell BK783.out 8).trans rfl, (blk_cell BK783.out 9).trans rfl⟩ (fun hHeld => ?_)
      clear hK K
      refine norm_ (a' := ?_) ?_ ?_
      rotate_left
      · show Act.put _ (some 5) _ = _
        simp only [Act.put, List.setIfInBounds_toArray, List.set_cons_zero, List.set_cons_succ, i64_w, i32_w]
        rfl
      refine one_ (i := 0) (N := some 9) #[true, true, false, false, false, false, false, true, false, false, false] rfl rfl (one_of HT_.out (by kernel_rfl)) (by decide) (fun K hK => ?_)
      refine goes_ Try.func75 (by kernel_rfl) rfl #[] (by rfl) rfl rfl (by (try simp only [List.map_toArray, List.map_cons, List.map_nil]); first | done | rfl | (simp only [List.length_drop, List.length_take]; rfl)) ?_
      with_reducible refine (L28_four.calls  t785 t786 _ A3.out).mono ?_
      rintro e w11 ⟨v787, rfl, ho0, hb⟩
      refine ⟨_, rfl, ?_⟩
      have n0_ := Aside0.mk (Kd.R_lower (Kd.R_newB (Kd.R_newB ho0 (g := gb784) (o := .cells #[.int .i64 a1_0, .int .i64 a1_1, .int .i64 a1_2, .int .i64 a1_3] 29 (0, 0)) (by (with_reducible repeat (first | refine blk_drewN ?_ _ | refine blk_drew ?_ | refine blk_alloc ?_ _)); exact BK784.out)) (g := gb795) (o := .cells #[.int .i64 0, .int .i64 0, .int .i64 0, .int .i64 0] 29 (0, 0)) (by (with_reducible repeat (first | refine blk_drewN ?_ _ | refine blk_drew ?_ | refine blk_alloc ?_ _)); exact BK795.out)) (below_size (by repeat (first | (with_reducible first | exact HB.out | apply below_alloc | apply pw_below_drewN | apply below_drew1 | refine below_set ?_ GE783.out | refine below_set ?_ GE784.out | refine below_set ?_ GE795.out) | exact HB.out))))
      have n1_ := Aside0.mk (blk_below (g := gb783) (o := .cells #[.int .i64 a0_0, .int .i64 a0_1, .int .i64 a0_2, .int .i64 a0_3, .int .i64 a0_4, .int .i64 a0_5, .int .i64 a0_6, .int .i64 a0_7, .int .i64 a0_8, .slice A0_9 l0_9.length c0_9] 60 (0, 0)) (by (with_reducible repeat (first | refine blk_drewN ?_ _ | refine blk_drew ?_ | refine blk_alloc ?_ _)); exact BK783.out) hb)
      have n2_ := Aside0.mk (blk_below (g := gb784) (o := .cells #[.int .i64 a1_0, .int .i64 a1_1, .int .i64 a1_2, .int .i64 a1_3] 29 (0, 0)) (by (with_reducible repeat (first | refine blk_drewN ?_ _ | refine blk_drew ?_ | refine blk_alloc ?_ _)); exact BK784.out) hb)
      have n3_ := Aside0.mk (blk_below (g := gb795) (o := .cells #[.int .i64 0, .int .i64 0, .int .i64 0, .int .i64 0] 29 (0, 0)) (by (with_reducible repeat (first | refine blk_drewN ?_ _ | refine blk_drew ?_ | refine blk_alloc ?_ _)); exact BK795.out) hb)
      have n4_ := Aside0.mk (below_step (by repeat (first | (with_reducible first | exact HB.out | apply below_alloc | apply pw_below_drewN | apply below_drew1 | refine below_set ?_ GE783.out | refine below_set ?_ GE784.out | refine below_set ?_ GE795.out) | exact HB.out)) hb)
      clear BK783
      clear BK784
      clear BK795
      clear HB
      have HO788 := n0_
      have BK783 := n1_
      have BK784 := n2_
      have BK795 := n3_
      have HB := n4_
      clear n0_ n1_ n2_ n3_ n4_
      (try clear hb)
      (try clear hb2)
      (try clear hk)
      (try clear hi)
      (try clear ho0)
      obtain ⟨Ao12, co12, eo12⟩ := Kd.R_slice HO788.out
      (first | subst eo12 | (injection eo12 with f1_ f2_ f3_; have f4_ := f1_.symm; have f5_ := f3_.symm; clear f1_ f2_ f3_; subst f4_; subst f5_))
      refine hK.out _ _ ⟨(blk_cell BK783.out 0).trans rfl, (blk_cell BK783.out 1).trans rfl, (blk_cell BK783.out 2).trans rfl, (blk_cell BK783.out 3).trans rfl, (blk_cell BK783.out 4).trans rfl, (blk_cell BK783.out 5).trans rfl, (blk_cell BK783.out 6).trans rfl, (blk_cell BK783.out 7).trans rfl, (blk_cell BK783.out 8).trans rfl, (blk_cell BK783.out 9).trans rfl⟩ (fun hHeld => ?_)
      clear hK K
      refine norm_ (a' := ?_) ?_ ?_
      rotate_left
      · show Act.put _ (some 9) _ = _
        simp only [Act.put, List.setIfInBounds_toArray, List.set_cons_zero, List.set_cons_succ, i64_w, i32_w]
        rfl
      refine one_ (i := 2) (N := some 11) #[true, true, true, false, false, false, false, true, false, false, false] rfl rfl (one_of HT_.out (by kernel_rfl)) (by decide) (fun K hK => ?_)
      refine goes_ Try.func56 (by kernel_rfl) rfl #[.agg #[.int .i64 t785, .slice Ao12 t786.length co12], .agg #[.int .i64 a0_0, .int .i64 a0_1, .int .i64 a0_2, .int .i64 a0_3, .int .i64 a0_4, .int .i64 a0_5, .int .i64 a0_6, .int .i64 a0_7, .int .i64 a0_8, .slice A0_9 l0_9.length c0_9]] (by rfl) rfl rfl (by (try simp only [List.map_toArray, List.map_cons, List.map_nil]); first | done | rfl | (simp only [List.length_drop, List.length_take]; rfl)) ?_
      with_reducible refine (pick_By.calls k t785 _ _ t786 a0_0 a0_1 a0_2 a0_3 a0_4 a0_5 a0_6 a0_7 a0_8 _ _ l0_9 t789 t790 t791 t792 true t794 _ ?side1 ?side2 ?side3 ?side4 A4.out).mono ?_
      (case side1 => repeat (first | exact (Kd.R_reads' HO788.out).2.2 | (with_reducible refine Kd.C_alloc ?_ _) | (with_reducible refine Kd.C_drewN ?_ _) | (with_reducible refine Kd.C_drew ?_)))
      (case side2 => exact (Kd.R_reads' HO788.out).2.1)
      (case side3 => repeat (first | exact (Kd.C_below HR0_9.out HB.out) | (with_reducible refine Kd.C_alloc ?_ _) | (with_reducible refine Kd.C_drewN ?_ _) | (with_reducible refine Kd.C_drew ?_)))
      (case side4 => exact HC0_9.out)
      rintro e w13 ⟨rfl, hb⟩
      refine ⟨_, rfl, ?_⟩
      have n0_ := Aside0.mk (Kd.R_below (by (with_reducible repeat (first | apply Kd.R_alloc | apply Kd.R_drewN | apply Kd.R_drew)); exact HO788.out) hb)
      have n1_ := Aside0.mk (blk_below (g := gb783) (o := .cells #[.int .i64 a0_0, .int .i64 a0_1, .int .i64 a0_2, .int .i64 a0_3, .int .i64 a0_4, .int .i64 a0_5, .int .i64 a0_6, .int .i64 a0_7, .int .i64 a0_8, .slice A0_9 l0_9.length c0_9] 60 (0, 0)) (by (with_reducible repeat (first | refine blk_drewN ?_ _ | refine blk_drew ?_ | refine blk_alloc ?_ _)); exact BK783.out) hb)
      have n2_ := Aside0.mk (blk_below (g := gb784) (o := .cells #[.int .i64 a1_0, .int .i64 a1_1, .int .i64 a1_2, .int .i64 a1_3] 29 (0, 0)) (by (with_reducible repeat (first | refine blk_drewN ?_ _ | refine blk_drew ?_ | refine blk_alloc ?_ _)); exact BK784.out) hb)
      have n3_ := Aside0.mk (blk_below (g := gb795) (o := .cells #[.int .i64 0, .int .i64 0, .int .i64 0, .int .i64 0] 29 (0, 0)) (by (with_reducible repeat (first | refine blk_drewN ?_ _ | refine blk_drew ?_ | refine blk_alloc ?_ _)); exact BK795.out) hb)
      have n4_ := Aside0.mk (below_step (by repeat (first | (with_reducible first | exact HB.out | apply below_alloc | apply pw_below_drewN | apply below_drew1 | refine below_set ?_ GE783.out | refine below_set ?_ GE784.out | refine below_set ?_ GE795.out) | exact HB.out)) hb)
      clear HO788
      clear BK783
      clear BK784
      clear BK795
      clear HB
      have HO788 := n0_
      have BK783 := n1_
      have BK784 := n2_
      have BK795 := n3_
      have HB := n4_
      clear n0_ n1_ n2_ n3_ n4_
      (try clear hb)
      (try clear hb2)
      (try clear hk)
      (try clear hi)
      refine hK.out _ _ ⟨(blk_cell BK783.out 0).trans rfl, (blk_cell BK783.out 1).trans rfl, (blk_cell BK783.out 2).trans rfl, (blk_cell BK783.out 3).trans rfl, (blk_cell BK783.out 4).trans rfl, (blk_cell BK783.out 5).trans rfl, (blk_cell BK783.out 6).trans rfl, (blk_cell BK783.out 7).trans rfl, (blk_cell BK783.out 8).trans rfl, (blk_cell BK783.out 9).trans rfl⟩ (fun hHeld => ?_)
      clear hK K
      refine norm_ (a' := ?_) ?_ ?_
      rotate_left
      · show Act.put _ (some 11) _ = _
        simp only [Act.put, List.setIfInBounds_toArray, List.set_cons_zero, List.set_cons_succ, i64_w, i32_w]
        rfl
      refine pure_ (i := 3) (N := some 8) (v := ?_) (a' := ?_) #[true, true, true, true, false, false, false, true, false, false, false] rfl rfl (any_of HT_.out (by kernel_rfl)) (fun _ _ _ h => h) (Or.inl ⟨by rfl, ?_⟩) ?_ ?_
      rotate_left
      · intro w'
        go_simp
        with_reducible rfl
      rotate_left
      · simp only [Act.put, List.setIfInBounds_toArray, List.set_cons_zero, List.set_cons_succ, i64_w, i32_w]
        rfl
      refine pure_ (i := 4) (N := some 12) (v := ?_) (a' := ?_) #[true, true, true, true, true, false, false, true, false, false, false] rfl rfl (any_of HT_.out (by kernel_rfl)) (fun _ _ _ h => h) (Or.inl ⟨by rfl, ?_⟩) ?_ ?_
      rotate_left
      · intro w'
        go_simp
        with_reducible rfl
      rotate_left
      · simp only [Act.put, List.setIfInBounds_toArray, List.set_cons_zero, List.set_cons_succ, i64_w, i32_w]
        rfl
      refine pure_ (i := 5) (N := some 13) (v := ?_) (a' := ?_) #[true, true, true, true, true, true, false, true, false, false, false] rfl rfl (any_of HT_.out (by kernel_rfl)) (fun _ _ _ h => h) (Or.inl ⟨by rfl, ?_⟩) ?_ ?_
      rotate_left
      · intro w'
        go_simp
        with_reducible rfl
      rotate_left
      · simp only [Act.put, List.setIfInBounds_toArray, List.set_cons_zero, List.set_cons_succ, i64_w, i32_w]
        rfl
      refine pure_ (i := 6) (N := some 14) (v := ?_) (a' := ?_) #[true, true, true, true, true, true, true, true, false, false, false] rfl rfl (any_of HT_.out (by kernel_rfl)) (fun _ _ _ h => h) (Or.inl ⟨by rfl, ?_⟩) ?_ ?_
      rotate_left
      · intro w'
        go_simp
        with_reducible rfl
      rotate_left
      · simp only [Act.put, List.setIfInBounds_toArray, List.set_cons_zero, List.set_cons_succ, i64_w, i32_w]
        rfl
      exact norm_ (by simp only [putAll, Act.put, List.setIfInBounds_toArray, List.set_cons_zero, List.set_cons_succ]) (hCont (.slice Ao12 t786.length co12, gb795) _ ⟨hHeld, (by (with_reducible repeat (first | apply Kd.R_alloc | apply Kd.R_drewN | apply Kd.R_drew)); exact Kd.R_mono HO788.out (fun _ hk => ⟨hk.1.2, hk.2⟩)), (by (with_reducible repeat (first | refine blk_drewN ?_ _ | refine blk_drew ?_ | refine blk_alloc ?_ _)); exact BK783.out), (by (with_reducible repeat (first | refine blk_drewN ?_ _ | refine blk_drew ?_ | refine blk_alloc ?_ _)); exact BK784.out), (by (with_reducible repeat (first | refine blk_drewN ?_ _ | refine blk_drew ?_ | refine blk_alloc ?_ _)); exact BK795.out), GW795.out, GE795.out, NB783_795.out, NB795_783.out, NB784_795.out, NB795_784.out, (by repeat (first | (with_reducible first | exact HB.out | apply below_alloc | apply pw_below_drewN | apply below_drew1 | refine below_set ?_ GE783.out | refine below_set ?_ GE784.out | refine below_set ?_ GE795.out) | exact HB.out))⟩)
  rintro ⟨v787, gb795⟩ w14 ⟨hS_, h0_, h1_, h2_, h3_, h4_, h5_, h6_, h7_, h8_, h9_, h10_⟩
  have n0_ : Aside0 (Kd.R k29 29 w14 w.heap.size (fun k_ => k_ ≠ gb784 ∧ k_ ≠ gb795) v787 t786) := ⟨h0_⟩
  have n1_ : Aside0 (w14.heap[gb783]? = some (.cells #[.int .i64 a0_0, .int .i64 a0_1, .int .i64 a0_2, .int .i64 a0_3, .int .i64 a0_4, .int .i64 a0_5, .int .i64 a0_6, .int .i64 a0_7, .int .i64 a0_8, .slice A0_9 l0_9.length c0_9] 60 (0, 0))) := ⟨h1_⟩
  have n2_ : Aside0 (w14.heap[gb784]? = some (.cells #[.int .i64 a1_0, .int .i64 a1_1, .int .i64 a1_2, .int .i64 a1_3] 29 (0, 0))) := ⟨h2_⟩
  have n3_ : Aside0 (w14.heap[gb795]? = some (.cells #[.int .i64 0, .int .i64 0, .int .i64 0, .int .i64 0] 29 (0, 0))) := ⟨h3_⟩
  have n4_ : Aside0 (w.heap.size ≤ gb795) := ⟨h4_⟩
  have n5_ : Aside0 (w.heap.size ≤ gb795) := ⟨h5_⟩
  have n6_ : Aside0 (gb783 ≠ gb795) := ⟨h6_⟩
  have n7_ : Aside0 (gb795 ≠ gb783) := ⟨h7_⟩
  have n8_ : Aside0 (gb784 ≠ gb795) := ⟨h8_⟩
  have n9_ : Aside0 (gb795 ≠ gb784) := ⟨h9_⟩
  have n10_ : Aside0 (Below w.heap.size w w14) := ⟨h10_⟩
  clear BK783
  clear BK784
  clear HB
  clear h0_ h1_ h2_ h3_ h4_ h5_ h6_ h7_ h8_ h9_ h10_
  have HO788 := n0_
  have BK783 := n1_
  have BK784 := n2_
  have BK795 := n3_
  have GW795 := n4_
  have GE795 := n5_
  have NB783_795 := n6_
  have NB795_783 := n7_
  have NB784_795 := n8_
  have NB795_784 := n9_
  have HB := n10_
  clear n0_ n1_ n2_ n3_ n4_ n5_ n6_ n7_ n8_ n9_ n10_
  have hHeld : w14.cell? ⟨gb783, 0, none⟩ = some (.int .i64 a0_0) ∧ w14.cell? ⟨gb783, 1, none⟩ = some (.int .i64 a0_1) ∧ w14.cell? ⟨gb783, 2, none⟩ = some (.int .i64 a0_2) ∧ w14.cell? ⟨gb783, 3, none⟩ = some (.int .i64 a0_3) ∧ w14.cell? ⟨gb783, 4, none⟩ = some (.int .i64 a0_4) ∧ w14.cell? ⟨gb783, 5, none⟩ = some (.int .i64 a0_5) ∧ w14.cell? ⟨gb783, 6, none⟩ = some (.int .i64 a0_6) ∧ w14.cell? ⟨gb783, 7, none⟩ = some (.int .i64 a0_7) ∧ w14.cell? ⟨gb783, 8, none⟩ = some (.int .i64 a0_8) ∧ w14.cell? ⟨gb783, 9, none⟩ = some (.slice A0_9 l0_9.length c0_9) := hS_
  refine norm_ (a' := ?_) ?_ ?_
  rotate_left
  · simp only [putAll, Act.put, List.setIfInBounds_toArray, List.set_cons_zero, List.set_cons_succ]
    rfl
  refine one_ (i := 8) (N := none) #[true, true, true, true, true, true, true, true, true, false, false] rfl rfl (one_of HT_.out (by kernel_rfl)) (by decide) (fun K hK => ?_)
  have hs15 : w14.cell? ⟨gb795, 0, none⟩ = some (.int .i64 0) := (blk_cell BK795.out 0).trans rfl
  have hfs15 := blk_frozen BK795.out 0
  have hns15_0 := NB783_795.out
  have hns15_1 := NB784_795.out
  have hms15_0 := NB795_783.out
  have hms15_1 := NB795_784.out
  have hs16 : w14.cell? ⟨gb795, 1, none⟩ = some (.int .i64 0) := (blk_cell BK795.out 1).trans rfl
  have hfs16 := blk_frozen BK795.out 1
  have hns16_0 := NB783_795.out
  have hns16_1 := NB784_795.out
  have hms16_0 := NB795_783.out
  have hms16_1 := NB795_784.out
  have hs17 : w14.cell? ⟨gb795, 2, none⟩ = some (.int .i64 0) := (blk_cell BK795.out 2).trans rfl
  have hfs17 := blk_frozen BK795.out 2
  have hns17_0 := NB783_795.out
  have hns17_1 := NB784_795.out
  have hms17_0 := NB795_783.out
  have hms17_1 := NB795_784.out
  have hs18 : w14.cell? ⟨gb795, 3, none⟩ = some (.int .i64 0) := (blk_cell BK795.out 3).trans rfl
  have hfs18 := blk_frozen BK795.out 3
  have hns18_0 := NB783_795.out
  have hns18_1 := NB784_795.out
  have hms18_0 := NB795_783.out
  have hms18_1 := NB795_784.out
  refine skip_ (w1 := ?_) (by rfl) rfl ?_ ?_
  rotate_left
  · go_simp
    rfl
  refine hK.out _ _ ⟨((cell_far (p := ⟨gb795, _, none⟩) NB783_795.out _).trans (((cell_far (p := ⟨gb795, _, none⟩) NB783_795.out _).trans (((cell_far (p := ⟨gb795, _, none⟩) NB783_795.out _).trans (((cell_far (p := ⟨gb795, _, none⟩) NB783_795.out _).trans (hHeld.1)))))))), ((cell_far (p := ⟨gb795, _, none⟩) NB783_795.out _).trans (((cell_far (p := ⟨gb795, _, none⟩) NB783_795.out _).trans (((cell_far (p := ⟨gb795, _, none⟩) NB783_795.out _).trans (((cell_far (p := ⟨gb795, _, none⟩) NB783_795.out _).trans (hHeld.2.1)))))))), ((cell_far (p := ⟨gb795, _, none⟩) NB783_795.out _).trans (((cell_far (p := ⟨gb795, _, none⟩) NB783_795.out _).trans (((cell_far (p := ⟨gb795, _, none⟩) NB783_795.out _).trans (((cell_far (p := ⟨gb795, _, none⟩) NB783_795.out _).trans (hHeld.2.2.1)))))))), ((cell_far (p := ⟨gb795, _, none⟩) NB783_795.out _).trans (((cell_far (p := ⟨gb795, _, none⟩) NB783_795.out _).trans (((cell_far (p := ⟨gb795, _, none⟩) NB783_795.out _).trans (((cell_far (p := ⟨gb795, _, none⟩) NB783_795.out _).trans (hHeld.2.2.2.1)))))))), ((cell_far (p := ⟨gb795, _, none⟩) NB783_795.out _).trans (((cell_far (p := ⟨gb795, _, none⟩) NB783_795.out _).trans (((cell_far (p := ⟨gb795, _, none⟩) NB783_795.out _).trans (((cell_far (p := ⟨gb795, _, none⟩) NB783_795.out _).trans (hHeld.2.2.2.2.1)))))))), ((cell_far (p := ⟨gb795, _, none⟩) NB783_795.out _).trans (((cell_far (p := ⟨gb795, _, none⟩) NB783_795.out _).trans (((cell_far (p := ⟨gb795, _, none⟩) NB783_795.out _).trans (((cell_far (p := ⟨gb795, _, none⟩) NB783_795.out _).trans (hHeld.2.2.2.2.2.1)))))))), ((cell_far (p := ⟨gb795, _, none⟩) NB783_795.out _).trans (((cell_far (p := ⟨gb795, _, none⟩) NB783_795.out _).trans (((cell_far (p := ⟨gb795, _, none⟩) NB783_795.out _).trans (((cell_far (p := ⟨gb795, _, none⟩) NB783_795.out _).trans (hHeld.2.2.2.2.2.2.1)))))))), ((cell_far (p := ⟨gb795, _, none⟩) NB783_795.out _).trans (((cell_far (p := ⟨gb795, _, none⟩) NB783_795.out _).trans (((cell_far (p := ⟨gb795, _, none⟩) NB783_795.out _).trans (((cell_far (p := ⟨gb795, _, none⟩) NB783_795.out _).trans (hHeld.2.2.2.2.2.2.2.1)))))))), ((cell_far (p := ⟨gb795, _, none⟩) NB783_795.out _).trans (((cell_far (p := ⟨gb795, _, none⟩) NB783_795.out _).trans (((cell_far (p := ⟨gb795, _, none⟩) NB783_795.out _).trans (((cell_far (p := ⟨gb795, _, none⟩) NB783_795.out _).trans (hHeld.2.2.2.2.2.2.2.2.1)))))))), ((cell_far (p := ⟨gb795, _, none⟩) NB783_795.out _).trans (((cell_far (p := ⟨gb795, _, none⟩) NB783_795.out _).trans (((cell_far (p := ⟨gb795, _, none⟩) NB783_795.out _).trans (((cell_far (p := ⟨gb795, _, none⟩) NB783_795.out _).trans (hHeld.2.2.2.2.2.2.2.2.2))))))))⟩ (fun hHeld => ?_)
  clear hK K
  refine pure_ (i := 9) (N := some 6) (v := ?_) (a' := ?_) #[true, true, true, true, true, true, true, true, true, true, false] rfl rfl (any_of HT_.out (by kernel_rfl)) (fun _ _ _ h => h) (Or.inl ⟨by rfl, ?_⟩) ?_ ?_
  rotate_left
  · intro w'
    go_simp
    with_reducible rfl
  rotate_left
  · simp only [Act.put, List.setIfInBounds_toArray, List.set_cons_zero, List.set_cons_succ, i64_w, i32_w]
    rfl
  refine pure_ (i := 10) (N := some 7) (v := ?_) (a' := ?_) #[true, true, true, true, true, true, true, true, true, true, true] rfl rfl (any_of HT_.out (by kernel_rfl)) (fun _ _ _ h => h) (Or.inl ⟨by rfl, ?_⟩) ?_ ?_
  rotate_left
  · intro w'
    go_simp
    with_reducible rfl
  rotate_left
  · simp only [Act.put, List.setIfInBounds_toArray, List.set_cons_zero, List.set_cons_succ, i64_w, i32_w]
    rfl
  refine done_ (done_of HT_.out (by kernel_rfl)) ?_
  have hnb19 := NB795_783.out
  have hnc19 := NB783_795.out
  have hnb20 := NB795_784.out
  have hnc20 := NB784_795.out
  have hcz21_0 : w14.cell? ⟨gb795, 0, none⟩ = some (.int .i64 0) := (blk_cell BK795.out 0).trans rfl
  have hcz21_1 : w14.cell? ⟨gb795, 1, none⟩ = some (.int .i64 0) := (blk_cell BK795.out 1).trans rfl
  have hcz21_2 : w14.cell? ⟨gb795, 2, none⟩ = some (.int .i64 0) := (blk_cell BK795.out 2).trans rfl
  have hcz21_3 : w14.cell? ⟨gb795, 3, none⟩ = some (.int .i64 0) := (blk_cell BK795.out 3).trans rfl
  have hfz21_0 := blk_frozen BK795.out 0
  have hfz21_1 := blk_frozen BK795.out 1
  have hfz21_2 := blk_frozen BK795.out 2
  have hfz21_3 := blk_frozen BK795.out 3
  have hnb22 := NB784_783.out
  have hnc22 := NB783_784.out
  have hcz23_0 : w14.cell? ⟨gb784, 0, none⟩ = some (.int .i64 a1_0) := (blk_cell BK784.out 0).trans rfl
  have hcz23_1 : w14.cell? ⟨gb784, 1, none⟩ = some (.int .i64 a1_1) := (blk_cell BK784.out 1).trans rfl
  have hcz23_2 : w14.cell? ⟨gb784, 2, none⟩ = some (.int .i64 a1_2) := (blk_cell BK784.out 2).trans rfl
  have hcz23_3 : w14.cell? ⟨gb784, 3, none⟩ = some (.int .i64 a1_3) := (blk_cell BK784.out 3).trans rfl
  have hfz23_0 := blk_frozen BK784.out 0
  have hfz23_1 := blk_frozen BK784.out 1
  have hfz23_2 := blk_frozen BK784.out 2
  have hfz23_3 := blk_frozen BK784.out 3
  try go_wp2
  all_goals go_ret
  all_goals exact ⟨by first | rfl | (simp [errW_none, errW_some] <;> rfl) | (simp [*, errW_none, errW_some] <;> rfl), by repeat (first | (with_reducible first | exact HB.out | apply below_alloc | apply pw_below_drewN | apply below_drew1 | refine below_set ?_ GE783.out | refine below_set ?_ GE784.out | refine below_set ?_ GE795.out) | exact HB.out)⟩


end Go.Proofs.Ytmfbpkjhabdcgaa.F
end
section
-- Written by fork.py (this session's program over the kit's print.py). Not trusted: Lean checks it.
namespace Go.Proofs.Ytmfbpkjhabdcgaa.F
open Go.RowKit Go.Proofs.YtmfbpkjhabdcgaaW.PrintWords Go.Proofs.YtmfbpkjhabdcgaaW.PrintLast Go.Proofs.YtmfbpkjhabdcgaaW.PrintMore
attribute [local go_sem] max2_int min2_int max_two min_two max_three min_three max_four min_four
set_option linter.unusedVariables false
set_option linter.unusedSimpArgs false

/-! ### L28_awake: function 57 -/
def L28_awake.f (k : Nat)  : Option (Bool) := (L28_ask.f 0 0 9 ([] : List (S29))).bind fun bt796 => ((L28_u3.f).bind fun bt808 => ((L28_by.f k bt796.1 bt796.2.1 bt796.2.2.1 bt796.2.2.2.1 bt796.2.2.2.2.1 bt796.2.2.2.2.2.1 bt796.2.2.2.2.2.2.1 bt796.2.2.2.2.2.2.2.1 bt796.2.2.2.2.2.2.2.2.1 bt796.2.2.2.2.2.2.2.2.2 bt808.1 bt808.2.1 bt808.2.2.1 bt808.2.2.2).bind fun t812 => (if t812 = true then ((L28_u3.f).bind fun bt813 => ((L28_ask.f 0 0 9 (([(⟨bt813.1, bt813.2.1, bt813.2.2.1, bt813.2.2.2⟩ : S29)] : List (S29)))).bind fun bt820 => ((L28_d1.f).bind fun bt832 => ((L28_by.f k bt820.1 bt820.2.1 bt820.2.2.1 bt820.2.2.2.1 bt820.2.2.2.2.1 bt820.2.2.2.2.2.1 bt820.2.2.2.2.2.2.1 bt820.2.2.2.2.2.2.2.1 bt820.2.2.2.2.2.2.2.2.1 bt820.2.2.2.2.2.2.2.2.2 bt832.1 bt832.2.1 bt832.2.2.1 bt832.2.2.2).bind fun t836 => (if t836 = true then ((L28_ask.f 0 1 9 ([] : List (S29))).bind fun bt837 => ((L28_c0.f).bind fun bt849 => ((L28_by.f k bt837.1 bt837.2.1 bt837.2.2.1 bt837.2.2.2.1 bt837.2.2.2.2.1 bt837.2.2.2.2.2.1 bt837.2.2.2.2.2.2.1 bt837.2.2.2.2.2.2.2.1 bt837.2.2.2.2.2.2.2.2.1 bt837.2.2.2.2.2.2.2.2.2 bt849.1 bt849.2.1 bt849.2.2.1 bt849.2.2.2).bind fun t853 => (if t853 = true then ((L28_u3.f).bind fun bt854 => ((L28_ask.f 0 0 15 (([(⟨bt854.1, bt854.2.1, bt854.2.2.1, bt854.2.2.2⟩ : S29)] : List (S29)))).bind fun bt861 => ((L28_u3.f).bind fun bt873 => ((L28_by.f k bt861.1 bt861.2.1 bt861.2.2.1 bt861.2.2.2.1 bt861.2.2.2.2.1 bt861.2.2.2.2.2.1 bt861.2.2.2.2.2.2.1 bt861.2.2.2.2.2.2.2.1 bt861.2.2.2.2.2.2.2.2.1 bt861.2.2.2.2.2.2.2.2.2 bt873.1 bt873.2.1 bt873.2.2.1 bt873.2.2.2).bind fun t877 => (some t877))))) else (some false))))) else (some false)))))) else (some false))))
theorem L28_awake.mono : ∀ k, LeO (L28_awake.f k ) (L28_awake.f (k + 1) ) := by
  intro  k
  unfold L28_awake.f
  repeat' first
      | (with_reducible exact L28_by.mono _ _ _ _ _ _ _ _ _ _ _ _ _ _ _)
      | (with_reducible exact LeO.refl _)
      | (with_reducible exact LeO.none _)
      | (with_reducible refine LeO.ite ?_ ?_)
      | (with_reducible refine LeO.bind ?_ (fun _ => ?_))
      | exact L28_by.mono _ _ _ _ _ _ _ _ _ _ _ _ _ _ _
      | exact LeO.none _
      | refine LeO.ite ?_ ?_
      | refine LeO.bind ?_ (fun _ => ?_)
set_option maxHeartbeats 8000000 in
set_option maxRecDepth 100000 in
theorem L28_awake.calls (k : Nat)  (r : Bool) (w : World) (h : L28_awake.f k  = some r) (ht_ : r = true := by rfl) :
    Calls Try.prog 57 #[] w fun e w' => e = .returned (.bool r) ∧ Below w.heap.size w w' := by
  subst ht_
  have HB := Aside0.mk (Below.refl w.heap.size w)
  have H : ((L28_ask.f 0 0 9 ([] : List (S29))).bind fun bt796 => ((L28_u3.f).bind fun bt808 => ((L28_by.f k bt796.1 bt796.2.1 bt796.2.2.1 bt796.2.2.2.1 bt796.2.2.2.2.1 bt796.2.2.2.2.2.1 bt796.2.2.2.2.2.2.1 bt796.2.2.2.2.2.2.2.1 bt796.2.2.2.2.2.2.2.2.1 bt796.2.2.2.2.2.2.2.2.2 bt808.1 bt808.2.1 bt808.2.2.1 bt808.2.2.2).bind fun t812 => (if t812 = true then ((L28_u3.f).bind fun bt813 => ((L28_ask.f 0 0 9 (([(⟨bt813.1, bt813.2.1, bt813.2.2.1, bt813.2.2.2⟩ : S29)] : List (S29)))).bind fun bt820 => ((L28_d1.f).bind fun bt832 => ((L28_by.f k bt820.1 bt820.2.1 bt820.2.2.1 bt820.2.2.2.1 bt820.2.2.2.2.1 bt820.2.2.2.2.2.1 bt820.2.2.2.2.2.2.1 bt820.2.2.2.2.2.2.2.1 bt820.2.2.2.2.2.2.2.2.1 bt820.2.2.2.2.2.2.2.2.2 bt832.1 bt832.2.1 bt832.2.2.1 bt832.2.2.2).bind fun t836 => (if t836 = true then ((L28_ask.f 0 1 9 ([] : List (S29))).bind fun bt837 => ((L28_c0.f).bind fun bt849 => ((L28_by.f k bt837.1 bt837.2.1 bt837.2.2.1 bt837.2.2.2.1 bt837.2.2.2.2.1 bt837.2.2.2.2.2.1 bt837.2.2.2.2.2.2.1 bt837.2.2.2.2.2.2.2.1 bt837.2.2.2.2.2.2.2.2.1 bt837.2.2.2.2.2.2.2.2.2 bt849.1 bt849.2.1 bt849.2.2.1 bt849.2.2.2).bind fun t853 => (if t853 = true then ((L28_u3.f).bind fun bt854 => ((L28_ask.f 0 0 15 (([(⟨bt854.1, bt854.2.1, bt854.2.2.1, bt854.2.2.2⟩ : S29)] : List (S29)))).bind fun bt861 => ((L28_u3.f).bind fun bt873 => ((L28_by.f k bt861.1 bt861.2.1 bt861.2.2.1 bt861.2.2.2.1 bt861.2.2.2.2.1 bt861.2.2.2.2.2.1 bt861.2.2.2.2.2.2.1 bt861.2.2.2.2.2.2.2.1 bt861.2.2.2.2.2.2.2.2.1 bt861.2.2.2.2.2.2.2.2.2 bt873.1 bt873.2.1 bt873.2.2.1 bt873.2.2.2).bind fun t877 => (some t877))))) else (some false))))) else (some false)))))) else (some false))))) = some true := h
  clear h
  replace H := Option.bind_eq_some_iff.mp H
  obtain ⟨⟨t796, t797, t798, t799, t800, t801, t802, t803, t804, t805⟩, A10, H⟩ := H
  replace H : ((L28_u3.f).bind fun bt808 => ((L28_by.f k t796 t797 t798 t799 t800 t801 t802 t803 t804 t805 bt808.1 bt808.2.1 bt808.2.2.1 bt808.2.2.2).bind fun t812 => (if t812 = true then ((L28_u3.f).bind fun bt813 => ((L28_ask.f 0 0 9 (([(⟨bt813.1, bt813.2.1, bt813.2.2.1, bt813.2.2.2⟩ : S29)] : List (S29)))).bind fun bt820 => ((L28_d1.f).bind fun bt832 => ((L28_by.f k bt820.1 bt820.2.1 bt820.2.2.1 bt820.2.2.2.1 bt820.2.2.2.2.1 bt820.2.2.2.2.2.1 bt820.2.2.2.2.2.2.1 bt820.2.2.2.2.2.2.2.1 bt820.2.2.2.2.2.2.2.2.1 bt820.2.2.2.2.2.2.2.2.2 bt832.1 bt832.2.1 bt832.2.2.1 bt832.2.2.2).bind fun t836 => (if t836 = true then ((L28_ask.f 0 1 9 ([] : List (S29))).bind fun bt837 => ((L28_c0.f).bind fun bt849 => ((L28_by.f k bt837.1 bt837.2.1 bt837.2.2.1 bt837.2.2.2.1 bt837.2.2.2.2.1 bt837.2.2.2.2.2.1 bt837.2.2.2.2.2.2.1 bt837.2.2.2.2.2.2.2.1 bt837.2.2.2.2.2.2.2.2.1 bt837.2.2.2.2.2.2.2.2.2 bt849.1 bt849.2.1 bt849.2.2.1 bt849.2.2.2).bind fun t853 => (if t853 = true then ((L28_u3.f).bind fun bt854 => ((L28_ask.f 0 0 15 (([(⟨bt854.1, bt854.2.1, bt854.2.2.1, bt854.2.2.2⟩ : S29)] : List (S29)))).bind fun bt861 => ((L28_u3.f).bind fun bt873 => ((L28_by.f k bt861.1 bt861.2.1 bt861.2.2.1 bt861.2.2.2.1 bt861.2.2.2.2.1 bt861.2.2.2.2.2.1 bt861.2.2.2.2.2.2.1 bt861.2.2.2.2.2.2.2.1 bt861.2.2.2.2.2.2.2.2.1 bt861.2.2.2.2.2.2.2.2.2 bt873.1 bt873.2.1 bt873.2.2.1 bt873.2.2.2).bind fun t877 => (some t877))))) else (some false))))) else (some false)))))) else (some false)))) = some true := H
  have A1 := Aside0.mk A10
  clear A10
  replace H := Option.bind_eq_some_iff.mp H
  obtain ⟨⟨t808, t809, t810, t811⟩, A20, H⟩ := H
  replace H : ((L28_by.f k t796 t797 t798 t799 t800 t801 t802 t803 t804 t805 t808 t809 t810 t811).bind fun t812 => (if t812 = true then ((L28_u3.f).bind fun bt813 => ((L28_ask.f 0 0 9 (([(⟨bt813.1, bt813.2.1, bt813.2.2.1, bt813.2.2.2⟩ : S29)] : List (S29)))).bind fun bt820 => ((L28_d1.f).bind fun bt832 => ((L28_by.f k bt820.1 bt820.2.1 bt820.2.2.1 bt820.2.2.2.1 bt820.2.2.2.2.1 bt820.2.2.2.2.2.1 bt820.2.2.2.2.2.2.1 bt820.2.2.2.2.2.2.2.1 bt820.2.2.2.2.2.2.2.2.1 bt820.2.2.2.2.2.2.2.2.2 bt832.1 bt832.2.1 bt832.2.2.1 bt832.2.2.2).bind fun t836 => (if t836 = true then ((L28_ask.f 0 1 9 ([] : List (S29))).bind fun bt837 => ((L28_c0.f).bind fun bt849 => ((L28_by.f k bt837.1 bt837.2.1 bt837.2.2.1 bt837.2.2.2.1 bt837.2.2.2.2.1 bt837.2.2.2.2.2.1 bt837.2.2.2.2.2.2.1 bt837.2.2.2.2.2.2.2.1 bt837.2.2.2.2.2.2.2.2.1 bt837.2.2.2.2.2.2.2.2.2 bt849.1 bt849.2.1 bt849.2.2.1 bt849.2.2.2).bind fun t853 => (if t853 = true then ((L28_u3.f).bind fun bt854 => ((L28_ask.f 0 0 15 (([(⟨bt854.1, bt854.2.1, bt854.2.2.1, bt854.2.2.2⟩ : S29)] : List (S29)))).bind fun bt861 => ((L28_u3.f).bind fun bt873 => ((L28_by.f k bt861.1 bt861.2.1 bt861.2.2.1 bt861.2.2.2.1 bt861.2.2.2.2.1 bt861.2.2.2.2.2.1 bt861.2.2.2.2.2.2.1 bt861.2.2.2.2.2.2.2.1 bt861.2.2.2.2.2.2.2.2.1 bt861.2.2.2.2.2.2.2.2.2 bt873.1 bt873.2.1 bt873.2.2.1 bt873.2.2.2).bind fun t877 => (some t877))))) else (some false))))) else (some false)))))) else (some false))) = some true := H
  have A2 := Aside0.mk A20
  clear A20
  replace H := Option.bind_eq_some_iff.mp H
  obtain ⟨t812, A30, H⟩ := H
  replace H : (if t812 = true then ((L28_u3.f).bind fun bt813 => ((L28_ask.f 0 0 9 (([(⟨bt813.1, bt813.2.1, bt813.2.2.1, bt813.2.2.2⟩ : S29)] : List (S29)))).bind fun bt820 => ((L28_d1.f).bind fun bt832 => ((L28_by.f k bt820.1 bt820.2.1 bt820.2.2.1 bt820.2.2.2.1 bt820.2.2.2.2.1 bt820.2.2.2.2.2.1 bt820.2.2.2.2.2.2.1 bt820.2.2.2.2.2.2.2.1 bt820.2.2.2.2.2.2.2.2.1 bt820.2.2.2.2.2.2.2.2.2 bt832.1 bt832.2.1 bt832.2.2.1 bt832.2.2.2).bind fun t836 => (if t836 = true then ((L28_ask.f 0 1 9 ([] : List (S29))).bind fun bt837 => ((L28_c0.f).bind fun bt849 => ((L28_by.f k bt837.1 bt837.2.1 bt837.2.2.1 bt837.2.2.2.1 bt837.2.2.2.2.1 bt837.2.2.2.2.2.1 bt837.2.2.2.2.2.2.1 bt837.2.2.2.2.2.2.2.1 bt837.2.2.2.2.2.2.2.2.1 bt837.2.2.2.2.2.2.2.2.2 bt849.1 bt849.2.1 bt849.2.2.1 bt849.2.2.2).bind fun t853 => (if t853 = true then ((L28_u3.f).bind fun bt854 => ((L28_ask.f 0 0 15 (([(⟨bt854.1, bt854.2.1, bt854.2.2.1, bt854.2.2.2⟩ : S29)] : List (S29)))).bind fun bt861 => ((L28_u3.f).bind fun bt873 => ((L28_by.f k bt861.1 bt861.2.1 bt861.2.2.1 bt861.2.2.2.1 bt861.2.2.2.2.1 bt861.2.2.2.2.2.1 bt861.2.2.2.2.2.2.1 bt861.2.2.2.2.2.2.2.1 bt861.2.2.2.2.2.2.2.2.1 bt861.2.2.2.2.2.2.2.2.2 bt873.1 bt873.2.1 bt873.2.2.1 bt873.2.2.2).bind fun t877 => (some t877))))) else (some false))))) else (some false)))))) else (some false)) = some true := H
  have A3 := Aside0.mk A30
  clear A30
  by_cases c4 : t812 = true
  rotate_left
  · replace c4 := Bool.eq_false_iff.mpr c4
    subst c4
    have H1 : (some false) = some true := by rw [if_neg (show ¬ (false = true) by decide)] at H; exact H
    clear H
    have H := H1
    clear H1
    exact absurd H (by repeat (first | exact never_none | exact never_false | refine never_ite ?_ ?_ | refine never_bind (fun _ => ?_)))
  subst c4
  have H1 : ((L28_u3.f).bind fun bt813 => ((L28_ask.f 0 0 9 (([(⟨bt813.1, bt813.2.1, bt813.2.2.1, bt813.2.2.2⟩ : S29)] : List (S29)))).bind fun bt820 => ((L28_d1.f).bind fun bt832 => ((L28_by.f k bt820.1 bt820.2.1 bt820.2.2.1 bt820.2.2.2.1 bt820.2.2.2.2.1 bt820.2.2.2.2.2.1 bt820.2.2.2.2.2.2.1 bt820.2.2.2.2.2.2.2.1 bt820.2.2.2.2.2.2.2.2.1 bt820.2.2.2.2.2.2.2.2.2 bt832.1 bt832.2.1 bt832.2.2.1 bt832.2.2.2).bind fun t836 => (if t836 = true then ((L28_ask.f 0 1 9 ([] : List (S29))).bind fun bt837 => ((L28_c0.f).bind fun bt849 => ((L28_by.f k bt837.1 bt837.2.1 bt837.2.2.1 bt837.2.2.2.1 bt837.2.2.2.2.1 bt837.2.2.2.2.2.1 bt837.2.2.2.2.2.2.1 bt837.2.2.2.2.2.2.2.1 bt837.2.2.2.2.2.2.2.2.1 bt837.2.2.2.2.2.2.2.2.2 bt849.1 bt849.2.1 bt849.2.2.1 bt849.2.2.2).bind fun t853 => (if t853 = true then ((L28_u3.f).bind fun bt854 => ((L28_ask.f 0 0 15 (([(⟨bt854.1, bt854.2.1, bt854.2.2.1, bt854.2.2.2⟩ : S29)] : List (S29)))).bind fun bt861 => ((L28_u3.f).bind fun bt873 => ((L28_by.f k bt861.1 bt861.2.1 bt861.2.2.1 bt861.2.2.2.1 bt861.2.2.2.2.1 bt861.2.2.2.2.2.1 bt861.2.2.2.2.2.2.1 bt861.2.2.2.2.2.2.2.1 bt861.2.2.2.2.2.2.2.2.1 bt861.2.2.2.2.2.2.2.2.2 bt873.1 bt873.2.1 bt873.2.2.1 bt873.2.2.2).bind fun t877 => (some t877))))) else (some false))))) else (some false)))))) = some true := by rw [if_pos rfl] at H; exact H
  clear H
  have H := H1
  clear H1
  replace H := Option.bind_eq_some_iff.mp H
  obtain ⟨⟨t813, t814, t815, t816⟩, A50, H⟩ := H
  replace H : ((L28_ask.f 0 0 9 (([(⟨t813, t814, t815, t816⟩ : S29)] : List (S29)))).bind fun bt820 => ((L28_d1.f).bind fun bt832 => ((L28_by.f k bt820.1 bt820.2.1 bt820.2.2.1 bt820.2.2.2.1 bt820.2.2.2.2.1 bt820.2.2.2.2.2.1 bt820.2.2.2.2.2.2.1 bt820.2.2.2.2.2.2.2.1 bt820.2.2.2.2.2.2.2.2.1 bt820.2.2.2.2.2.2.2.2.2 bt832.1 bt832.2.1 bt832.2.2.1 bt832.2.2.2).bind fun t836 => (if t836 = true then ((L28_ask.f 0 1 9 ([] : List (S29))).bind fun bt837 => ((L28_c0.f).bind fun bt849 => ((L28_by.f k bt837.1 bt837.2.1 bt837.2.2.1 bt837.2.2.2.1 bt837.2.2.2.2.1 bt837.2.2.2.2.2.1 bt837.2.2.2.2.2.2.1 bt837.2.2.2.2.2.2.2.1 bt837.2.2.2.2.2.2.2.2.1 bt837.2.2.2.2.2.2.2.2.2 bt849.1 bt849.2.1 bt849.2.2.1 bt849.2.2.2).bind fun t853 => (if t853 = true then ((L28_u3.f).bind fun bt854 => ((L28_ask.f 0 0 15 (([(⟨bt854.1, bt854.2.1, bt854.2.2.1, bt854.2.2.2⟩ : S29)] : List (S29)))).bind fun bt861 => ((L28_u3.f).bind fun bt873 => ((L28_by.f k bt861.1 bt861.2.1 bt861.2.2.1 bt861.2.2.2.1 bt861.2.2.2.2.1 bt861.2.2.2.2.2.1 bt861.2.2.2.2.2.2.1 bt861.2.2.2.2.2.2.2.1 bt861.2.2.2.2.2.2.2.2.1 bt861.2.2.2.2.2.2.2.2.2 bt873.1 bt873.2.1 bt873.2.2.1 bt873.2.2.2).bind fun t877 => (some t877))))) else (some false))))) else (some false))))) = some true := H
  have A5 := Aside0.mk A50
  clear A50
  obtain ⟨y817, hy817⟩ : ∃ y_ : List (S29), y_ = (([(⟨t813, t814, t815, t816⟩ : S29)] : List (S29))) := ⟨_, rfl⟩
  replace H : ((L28_ask.f 0 0 9 y817).bind fun bt820 => ((L28_d1.f).bind fun bt832 => ((L28_by.f k bt820.1 bt820.2.1 bt820.2.2.1 bt820.2.2.2.1 bt820.2.2.2.2.1 bt820.2.2.2.2.2.1 bt820.2.2.2.2.2.2.1 bt820.2.2.2.2.2.2.2.1 bt820.2.2.2.2.2.2.2.2.1 bt820.2.2.2.2.2.2.2.2.2 bt832.1 bt832.2.1 bt832.2.2.1 bt832.2.2.2).bind fun t836 => (if t836 = true then ((L28_ask.f 0 1 9 ([] : List (S29))).bind fun bt837 => ((L28_c0.f).bind fun bt849 => ((L28_by.f k bt837.1 bt837.2.1 bt837.2.2.1 bt837.2.2.2.1 bt837.2.2.2.2.1 bt837.2.2.2.2.2.1 bt837.2.2.2.2.2.2.1 bt837.2.2.2.2.2.2.2.1 bt837.2.2.2.2.2.2.2.2.1 bt837.2.2.2.2.2.2.2.2.2 bt849.1 bt849.2.1 bt849.2.2.1 bt849.2.2.2).bind fun t853 => (if t853 = true then ((L28_u3.f).bind fun bt854 => ((L28_ask.f 0 0 15 (([(⟨bt854.1, bt854.2.1, bt854.2.2.1, bt854.2.2.2⟩ : S29)] : List (S29)))).bind fun bt861 => ((L28_u3.f).bind fun bt873 => ((L28_by.f k bt861.1 bt861.2.1 bt861.2.2.1 bt861.2.2.2.1 bt861.2.2.2.2.1 bt861.2.2.2.2.2.1 bt861.2.2.2.2.2.2.1 bt861.2.2.2.2.2.2.2.1 bt861.2.2.2.2.2.2.2.2.1 bt861.2.2.2.2.2.2.2.2.2 bt873.1 bt873.2.1 bt873.2.2.1 bt873.2.2.2).bind fun t877 => (some t877))))) else (some false))))) else (some false))))) = some true := by first | (rw [hy817]; with_reducible exact H) | (have H2_ := (Option.bind_some _ _).symm.trans H; rw [hy817]; with_reducible exact H2_) | (have H2_ := (Option.bind_some _ _).symm.trans H; with_reducible exact H2_) | with_reducible exact H | (rw [hy817]; exact H) | exact H
  have Ny817 := Aside0.mk hy817
  clear hy817
  replace H := Option.bind_eq_some_iff.mp H
  obtain ⟨⟨t820, t821, t822, t823, t824, t825, t826, t827, t828, t829⟩, A60, H⟩ := H
  replace H : ((L28_d1.f).bind fun bt832 => ((L28_by.f k t820 t821 t822 t823 t824 t825 t826 t827 t828 t829 bt832.1 bt832.2.1 bt832.2.2.1 bt832.2.2.2).bind fun t836 => (if t836 = true then ((L28_ask.f 0 1 9 ([] : List (S29))).bind fun bt837 => ((L28_c0.f).bind fun bt849 => ((L28_by.f k bt837.1 bt837.2.1 bt837.2.2.1 bt837.2.2.2.1 bt837.2.2.2.2.1 bt837.2.2.2.2.2.1 bt837.2.2.2.2.2.2.1 bt837.2.2.2.2.2.2.2.1 bt837.2.2.2.2.2.2.2.2.1 bt837.2.2.2.2.2.2.2.2.2 bt849.1 bt849.2.1 bt849.2.2.1 bt849.2.2.2).bind fun t853 => (if t853 = true then ((L28_u3.f).bind fun bt854 => ((L28_ask.f 0 0 15 (([(⟨bt854.1, bt854.2.1, bt854.2.2.1, bt854.2.2.2⟩ : S29)] : List (S29)))).bind fun bt861 => ((L28_u3.f).bind fun bt873 => ((L28_by.f k bt861.1 bt861.2.1 bt861.2.2.1 bt861.2.2.2.1 bt861.2.2.2.2.1 bt861.2.2.2.2.2.1 bt861.2.2.2.2.2.2.1 bt861.2.2.2.2.2.2.2.1 bt861.2.2.2.2.2.2.2.2.1 bt861.2.2.2.2.2.2.2.2.2 bt873.1 bt873.2.1 bt873.2.2.1 bt873.2.2.2).bind fun t877 => (some t877))))) else (some false))))) else (some false)))) = some true := H
  have A6 := Aside0.mk A60
  clear A60
  replace H := Option.bind_eq_some_iff.mp H
  obtain ⟨⟨t832, t833, t834, t835⟩, A70, H⟩ := H
  replace H : ((L28_by.f k t820 t821 t822 t823 t824 t825 t826 t827 t828 t829 t832 t833 t834 t835).bind fun t836 => (if t836 = true then ((L28_ask.f 0 1 9 ([] : List (S29))).bind fun bt837 => ((L28_c0.f).bind fun bt849 => ((L28_by.f k bt837.1 bt837.2.1 bt837.2.2.1 bt837.2.2.2.1 bt837.2.2.2.2.1 bt837.2.2.2.2.2.1 bt837.2.2.2.2.2.2.1 bt837.2.2.2.2.2.2.2.1 bt837.2.2.2.2.2.2.2.2.1 bt837.2.2.2.2.2.2.2.2.2 bt849.1 bt849.2.1 bt849.2.2.1 bt849.2.2.2).bind fun t853 => (if t853 = true then ((L28_u3.f).bind fun bt854 => ((L28_ask.f 0 0 15 (([(⟨bt854.1, bt854.2.1, bt854.2.2.1, bt854.2.2.2⟩ : S29)] : List (S29)))).bind fun bt861 => ((L28_u3.f).bind fun bt873 => ((L28_by.f k bt861.1 bt861.2.1 bt861.2.2.1 bt861.2.2.2.1 bt861.2.2.2.2.1 bt861.2.2.2.2.2.1 bt861.2.2.2.2.2.2.1 bt861.2.2.2.2.2.2.2.1 bt861.2.2.2.2.2.2.2.2.1 bt861.2.2.2.2.2.2.2.2.2 bt873.1 bt873.2.1 bt873.2.2.1 bt873.2.2.2).bind fun t877 => (some t877))))) else (some false))))) else (some false))) = some true := H
  have A7 := Aside0.mk A70
  clear A70
  replace H := Option.bind_eq_some_iff.mp H
  obtain ⟨t836, A80, H⟩ := H
  replace H : (if t836 = true then ((L28_ask.f 0 1 9 ([] : List (S29))).bind fun bt837 => ((L28_c0.f).bind fun bt849 => ((L28_by.f k bt837.1 bt837.2.1 bt837.2.2.1 bt837.2.2.2.1 bt837.2.2.2.2.1 bt837.2.2.2.2.2.1 bt837.2.2.2.2.2.2.1 bt837.2.2.2.2.2.2.2.1 bt837.2.2.2.2.2.2.2.2.1 bt837.2.2.2.2.2.2.2.2.2 bt849.1 bt849.2.1 bt849.2.2.1 bt849.2.2.2).bind fun t853 => (if t853 = true then ((L28_u3.f).bind fun bt854 => ((L28_ask.f 0 0 15 (([(⟨bt854.1, bt854.2.1, bt854.2.2.1, bt854.2.2.2⟩ : S29)] : List (S29)))).bind fun bt861 => ((L28_u3.f).bind fun bt873 => ((L28_by.f k bt861.1 bt861.2.1 bt861.2.2.1 bt861.2.2.2.1 bt861.2.2.2.2.1 bt861.2.2.2.2.2.1 bt861.2.2.2.2.2.2.1 bt861.2.2.2.2.2.2.2.1 bt861.2.2.2.2.2.2.2.2.1 bt861.2.2.2.2.2.2.2.2.2 bt873.1 bt873.2.1 bt873.2.2.1 bt873.2.2.2).bind fun t877 => (some t877))))) else (some false))))) else (some false)) = some true := H
  have A8 := Aside0.mk A80
  clear A80
  by_cases c9 : t836 = true
  rotate_left
  · replace c9 := Bool.eq_false_iff.mpr c9
    subst c9
    have H1 : (some false) = some true := by rw [if_neg (show ¬ (false = true) by decide)] at H; exact H
    clear H
    have H := H1
    clear H1
    exact absurd H (by repeat (first | exact never_none | exact never_false | refine never_ite ?_ ?_ | refine never_bind (fun _ => ?_)))
  subst c9
  have H1 : ((L28_ask.f 0 1 9 ([] : List (S29))).bind fun bt837 => ((L28_c0.f).bind fun bt849 => ((L28_by.f k bt837.1 bt837.2.1 bt837.2.2.1 bt837.2.2.2.1 bt837.2.2.2.2.1 bt837.2.2.2.2.2.1 bt837.2.2.2.2.2.2.1 bt837.2.2.2.2.2.2.2.1 bt837.2.2.2.2.2.2.2.2.1 bt837.2.2.2.2.2.2.2.2.2 bt849.1 bt849.2.1 bt849.2.2.1 bt849.2.2.2).bind fun t853 => (if t853 = true then ((L28_u3.f).bind fun bt854 => ((L28_ask.f 0 0 15 (([(⟨bt854.1, bt854.2.1, bt854.2.2.1, bt854.2.2.2⟩ : S29)] : List (S29)))).bind fun bt861 => ((L28_u3.f).bind fun bt873 => ((L28_by.f k bt861.1 bt861.2.1 bt861.2.2.1 bt861.2.2.2.1 bt861.2.2.2.2.1 bt861.2.2.2.2.2.1 bt861.2.2.2.2.2.2.1 bt861.2.2.2.2.2.2.2.1 bt861.2.2.2.2.2.2.2.2.1 bt861.2.2.2.2.2.2.2.2.2 bt873.1 bt873.2.1 bt873.2.2.1 bt873.2.2.2).bind fun t877 => (some t877))))) else (some false))))) = some true := by rw [if_pos rfl] at H; exact H
  clear H
  have H := H1
  clear H1
  replace H := Option.bind_eq_some_iff.mp H
  obtain ⟨⟨t837, t838, t839, t840, t841, t842, t843, t844, t845, t846⟩, A100, H⟩ := H
  replace H : ((L28_c0.f).bind fun bt849 => ((L28_by.f k t837 t838 t839 t840 t841 t842 t843 t844 t845 t846 bt849.1 bt849.2.1 bt849.2.2.1 bt849.2.2.2).bind fun t853 => (if t853 = true then ((L28_u3.f).bind fun bt854 => ((L28_ask.f 0 0 15 (([(⟨bt854.1, bt854.2.1, bt854.2.2.1, bt854.2.2.2⟩ : S29)] : List (S29)))).bind fun bt861 => ((L28_u3.f).bind fun bt873 => ((L28_by.f k bt861.1 bt861.2.1 bt861.2.2.1 bt861.2.2.2.1 bt861.2.2.2.2.1 bt861.2.2.2.2.2.1 bt861.2.2.2.2.2.2.1 bt861.2.2.2.2.2.2.2.1 bt861.2.2.2.2.2.2.2.2.1 bt861.2.2.2.2.2.2.2.2.2 bt873.1 bt873.2.1 bt873.2.2.1 bt873.2.2.2).bind fun t877 => (some t877))))) else (some false)))) = some true := H
  have A10 := Aside0.mk A100
  clear A100
  replace H := Option.bind_eq_some_iff.mp H
  obtain ⟨⟨t849, t850, t851, t852⟩, A110, H⟩ := H
  replace H : ((L28_by.f k t837 t838 t839 t840 t841 t842 t843 t844 t845 t846 t849 t850 t851 t852).bind fun t853 => (if t853 = true then ((L28_u3.f).bind fun bt854 => ((L28_ask.f 0 0 15 (([(⟨bt854.1, bt854.2.1, bt854.2.2.1, bt854.2.2.2⟩ : S29)] : List (S29)))).bind fun bt861 => ((L28_u3.f).bind fun bt873 => ((L28_by.f k bt861.1 bt861.2.1 bt861.2.2.1 bt861.2.2.2.1 bt861.2.2.2.2.1 bt861.2.2.2.2.2.1 bt861.2.2.2.2.2.2.1 bt861.2.2.2.2.2.2.2.1 bt861.2.2.2.2.2.2.2.2.1 bt861.2.2.2.2.2.2.2.2.2 bt873.1 bt873.2.1 bt873.2.2.1 bt873.2.2.2).bind fun t877 => (some t877))))) else (some false))) = some true := H
  have A11 := Aside0.mk A110
  clear A110
  replace H := Option.bind_eq_some_iff.mp H
  obtain ⟨t853, A120, H⟩ := H
  replace H : (if t853 = true then ((L28_u3.f).bind fun bt854 => ((L28_ask.f 0 0 15 (([(⟨bt854.1, bt854.2.1, bt854.2.2.1, bt854.2.2.2⟩ : S29)] : List (S29)))).bind fun bt861 => ((L28_u3.f).bind fun bt873 => ((L28_by.f k bt861.1 bt861.2.1 bt861.2.2.1 bt861.2.2.2.1 bt861.2.2.2.2.1 bt861.2.2.2.2.2.1 bt861.2.2.2.2.2.2.1 bt861.2.2.2.2.2.2.2.1 bt861.2.2.2.2.2.2.2.2.1 bt861.2.2.2.2.2.2.2.2.2 bt873.1 bt873.2.1 bt873.2.2.1 bt873.2.2.2).bind fun t877 => (some t877))))) else (some false)) = some true := H
  have A12 := Aside0.mk A120
  clear A120
  by_cases c13 : t853 = true
  rotate_left
  · replace c13 := Bool.eq_false_iff.mpr c13
    subst c13
    have H1 : (some false) = some true := by rw [if_neg (show ¬ (false = true) by decide)] at H; exact H
    clear H
    have H := H1
    clear H1
    exact absurd H (by repeat (first | exact never_none | exact never_false | refine never_ite ?_ ?_ | refine never_bind (fun _ => ?_)))
  subst c13
  have H1 : ((L28_u3.f).bind fun bt854 => ((L28_ask.f 0 0 15 (([(⟨bt854.1, bt854.2.1, bt854.2.2.1, bt854.2.2.2⟩ : S29)] : List (S29)))).bind fun bt861 => ((L28_u3.f).bind fun bt873 => ((L28_by.f k bt861.1 bt861.2.1 bt861.2.2.1 bt861.2.2.2.1 bt861.2.2.2.2.1 bt861.2.2.2.2.2.1 bt861.2.2.2.2.2.2.1 bt861.2.2.2.2.2.2.2.1 bt861.2.2.2.2.2.2.2.2.1 bt861.2.2.2.2.2.2.2.2.2 bt873.1 bt873.2.1 bt873.2.2.1 bt873.2.2.2).bind fun t877 => (some t877))))) = some true := by rw [if_pos rfl] at H; exact H
  clear H
  have H := H1
  clear H1
  replace H := Option.bind_eq_some_iff.mp H
  obtain ⟨⟨t854, t855, t856, t857⟩, A140, H⟩ := H
  replace H : ((L28_ask.f 0 0 15 (([(⟨t854, t855, t856, t857⟩ : S29)] : List (S29)))).bind fun bt861 => ((L28_u3.f).bind fun bt873 => ((L28_by.f k bt861.1 bt861.2.1 bt861.2.2.1 bt861.2.2.2.1 bt861.2.2.2.2.1 bt861.2.2.2.2.2.1 bt861.2.2.2.2.2.2.1 bt861.2.2.2.2.2.2.2.1 bt861.2.2.2.2.2.2.2.2.1 bt861.2.2.2.2.2.2.2.2.2 bt873.1 bt873.2.1 bt873.2.2.1 bt873.2.2.2).bind fun t877 => (some t877)))) = some true := H
  have A14 := Aside0.mk A140
  clear A140
  obtain ⟨y858, hy858⟩ : ∃ y_ : List (S29), y_ = (([(⟨t854, t855, t856, t857⟩ : S29)] : List (S29))) := ⟨_, rfl⟩
  replace H : ((L28_ask.f 0 0 15 y858).bind fun bt861 => ((L28_u3.f).bind fun bt873 => ((L28_by.f k bt861.1 bt861.2.1 bt861.2.2.1 bt861.2.2.2.1 bt861.2.2.2.2.1 bt861.2.2.2.2.2.1 bt861.2.2.2.2.2.2.1 bt861.2.2.2.2.2.2.2.1 bt861.2.2.2.2.2.2.2.2.1 bt861.2.2.2.2.2.2.2.2.2 bt873.1 bt873.2.1 bt873.2.2.1 bt873.2.2.2).bind fun t877 => (some t877)))) = some true := by first | (rw [hy858]; with_reducible exact H) | (have H2_ := (Option.bind_some _ _).symm.trans H; rw [hy858]; with_reducible exact H2_) | (have H2_ := (Option.bind_some _ _).symm.trans H; with_reducible exact H2_) | with_reducible exact H | (rw [hy858]; exact H) | exact H
  have Ny858 := Aside0.mk hy858
  clear hy858
  replace H := Option.bind_eq_some_iff.mp H
  obtain ⟨⟨t861, t862, t863, t864, t865, t866, t867, t868, t869, t870⟩, A150, H⟩ := H
  replace H : ((L28_u3.f).bind fun bt873 => ((L28_by.f k t861 t862 t863 t864 t865 t866 t867 t868 t869 t870 bt873.1 bt873.2.1 bt873.2.2.1 bt873.2.2.2).bind fun t877 => (some t877))) = some true := H
  have A15 := Aside0.mk A150
  clear A150
  replace H := Option.bind_eq_some_iff.mp H
  obtain ⟨⟨t873, t874, t875, t876⟩, A160, H⟩ := H
  replace H : ((L28_by.f k t861 t862 t863 t864 t865 t866 t867 t868 t869 t870 t873 t874 t875 t876).bind fun t877 => (some t877)) = some true := H
  have A16 := Aside0.mk A160
  clear A160
  replace H := Option.bind_eq_some_iff.mp H
  obtain ⟨t877, A170, H⟩ := H
  replace H : (some t877) = some true := H
  have A17 := Aside0.mk A170
  clear A170
  have Ht_ := Option.some.inj H
  clear H
  subst Ht_
  have H : (some true : Option Bool) = some true := rfl
  clear H
  go_enter Try.func57, Try.ntmps57
  go_wp2_with (first | ((with_reducible refine gate_callee (f := 69) rfl ?_); refine goesL_ (some 1) rfl rfl Try.func69 (by kernel_rfl) rfl #[.int .i64 0, .int .i64 0, .int .i64 9, .slice none 0 0] rfl (by (try simp only [List.map_toArray, List.map_cons, List.map_nil]); first | done | rfl | (simp only [List.length_drop, List.length_take]; rfl)) ?_; (refine (L28_ask.calls 0 0 9 (fun k_ => some k_ = (.slice none 0 0 : Value).ownBlock) (.slice none 0 0) ([] : List (S29)) t796 t797 t798 t799 t800 t801 t802 t803 t804 t805 w _ ?side1 ?side2 A1.out).mono ?_); (case side1 => repeat (first | (with_reducible first | exact HB.out | apply below_alloc | apply pw_below_drewN | apply below_drew1) | exact HB.out)); (case side2 => exact Kd.R_nil _ _ _ _ _); rintro e w18 ⟨v806, rfl, ho0, hb, hkp⟩; refine ⟨_, rfl, ?_⟩; have n0_ := Aside0.mk (Kd.R_mono (ok' := fun k_ => True) ho0 (fun k_ hk_ => trivial)); have n1_ := Aside0.mk (hb); clear HB; have HO807 := n0_; have HB := n1_; clear n0_ n1_; (try clear hb); (try clear hkp); (try clear ho0)) | ((with_reducible refine gate_callee (f := 71) rfl ?_); refine goesL_ (some 2) rfl rfl Try.func71 (by kernel_rfl) rfl #[] rfl (by (try simp only [List.map_toArray, List.map_cons, List.map_nil]); first | done | rfl | (simp only [List.length_drop, List.length_take]; rfl)) ?_; (with_reducible refine (L28_u3.calls  t808 t809 t810 t811 _ A2.out).mono ?_); rintro e w19 ⟨rfl, hb⟩; refine ⟨_, rfl, ?_⟩; have n0_ := Aside0.mk (Kd.R_below (by (with_reducible repeat (first | apply Kd.R_alloc | apply Kd.R_drewN | apply Kd.R_drew)); exact HO807.out) hb); have n1_ := Aside0.mk (below_step (by repeat (first | (with_reducible first | exact HB.out | apply below_alloc | apply pw_below_drewN | apply below_drew1) | exact HB.out)) hb); clear HO807; clear HB; have HO807 := n0_; have HB := n1_; clear n0_ n1_; (try clear hb); (try clear hb2); (try clear hk); (try clear hi); obtain ⟨Ao20, co20, eo20⟩ := Kd.R_slice HO807.out; subst eo20) | ((with_reducible refine gate_callee (f := 70) rfl ?_); refine goesL_ (some 3) rfl rfl Try.func70 (by kernel_rfl) rfl #[.agg #[.int .i64 t796, .int .i64 t797, .int .i64 t798, .int .i64 t799, .int .i64 t800, .int .i64 t801, .int .i64 t802, .int .i64 t803, .int .i64 t804, .slice Ao20 t805.length co20], .agg #[.int .i64 t808, .int .i64 t809, .int .i64 t810, .int .i64 t811]] rfl (by (try simp only [List.map_toArray, List.map_cons, List.map_nil]); first | done | rfl | (simp only [List.length_drop, List.length_take]; rfl)) ?_; (with_reducible refine (L28_by.calls k t796 t797 t798 t799 t800 t801 t802 t803 t804 _ _ t805 t808 t809 t810 t811 true _ ?side1 ?side2 A3.out).mono ?_); (case side1 => repeat (first | exact (Kd.R_reads' HO807.out).2.2 | (with_reducible refine Kd.C_alloc ?_ _) | (with_reducible refine Kd.C_drewN ?_ _) | (with_reducible refine Kd.C_drew ?_))); (case side2 => exact (Kd.R_reads' HO807.out).2.1); rintro e w21 ⟨rfl, hb⟩; refine ⟨_, rfl, ?_⟩; have n0_ := Aside0.mk (Kd.R_below (by (with_reducible repeat (first | apply Kd.R_alloc | apply Kd.R_drewN | apply Kd.R_drew)); exact HO807.out) hb); have n1_ := Aside0.mk (below_step (by repeat (first | (with_reducible first | exact HB.out | apply below_alloc | apply pw_below_drewN | apply below_drew1) | exact HB.out)) hb); clear HO807; clear HB; have HO807 := n0_; have HB := n1_; clear n0_ n1_; (try clear hb); (try clear hb2); (try clear hk); (try clear hi)) | ((with_reducible refine gate_callee (f := 71) rfl ?_); (with_reducible refine gate_dst (N := 5) rfl ?_); refine gate_guard (by rfl) ?_; dsimp only; refine goesL_ (some 5) rfl rfl Try.func71 (by kernel_rfl) rfl #[] rfl (by (try simp only [List.map_toArray, List.map_cons, List.map_nil]); first | done | rfl | (simp only [List.length_drop, List.length_take]; rfl)) ?_; (with_reducible refine (L28_u3.calls  t813 t814 t815 t816 _ A5.out).mono ?_); rintro e w22 ⟨rfl, hb⟩; refine ⟨_, rfl, ?_⟩; have n0_ := Aside0.mk (Kd.R_below (by (with_reducible repeat (first | apply Kd.R_alloc | apply Kd.R_drewN | apply Kd.R_drew)); exact HO807.out) hb); have n1_ := Aside0.mk (below_step (by repeat (first | (with_reducible first | exact HB.out | apply below_alloc | apply pw_below_drewN | apply below_drew1) | exact HB.out)) hb); clear HO807; clear HB; have HO807 := n0_; have HB := n1_; clear n0_ n1_; (try clear hb); (try clear hb2); (try clear hk); (try clear hi)) | ((with_reducible refine gate_dst (N := 6) rfl ?_); (try (refine gate_guard (by rfl) ?_; dsimp only)); refine Kd.R_lit k29 _ 29 ?hg (N := 6) ?hd (xs := ([(⟨t813, t814, t815, t816⟩ : S29)] : List (S29))) (inner := [.int .i64 t813, .int .i64 t814, .int .i64 t815, .int .i64 t816]) (ok := fun _ => True) (okp := fun _ => True) ?hr ?hp (fun _ hk => hk) trivial (Below.refl _ _) (Nat.le_refl _) (by simp) ?_; (case hd => rfl); (case hg => rfl); (case hr => first | (go_simp; done) | (go_simp; rfl)); (case hp => exact (Reps.c4 (show Kd.M k29 _ _ _ (⟨t813, t814, t815, t816⟩ : S29) [.int .i64 t813, .int .i64 t814, .int .i64 t815, .int .i64 t816] from (k29_mkM _ _ _ (⟨t813, t814, t815, t816⟩ : S29) )) (Reps.none _ _))); intro v818 w23 ho24 hb hg_ hnew_; clear hg_ hnew_; (first | rw [← Ny817.out] at ho24 | (simp only [Int.reduceToNat] at ho24; rw [← Ny817.out] at ho24)); have n0_ := Aside0.mk (Kd.R_elder' (by (with_reducible repeat (first | apply Kd.R_alloc | apply Kd.R_drewN | apply Kd.R_drew)); exact HO807.out) (Kd.R_base ho24) hb); have n1_ := Aside0.mk (Kd.R_lower (Kd.R_new' ho24 (Kd.R_lt (by (with_reducible repeat (first | apply Kd.R_alloc | apply Kd.R_drewN | apply Kd.R_drew)); exact HO807.out))) (below_size (by repeat (first | (with_reducible first | exact HB.out | apply below_alloc | apply pw_below_drewN | apply below_drew1) | exact HB.out)))); have n2_ := Aside0.mk (below_step (by repeat (first | (with_reducible first | exact HB.out | apply below_alloc | apply pw_below_drewN | apply below_drew1) | exact HB.out)) hb); clear HO807; clear HB; have HO807 := n0_; have HO819 := n1_; have HB := n2_; clear n0_ n1_ n2_; clear hb ho24; obtain ⟨Ao25, co25, eo25⟩ := Kd.R_slice HO819.out; subst eo25) | ((with_reducible refine gate_callee (f := 69) rfl ?_); (with_reducible refine gate_dst (N := 7) rfl ?_); refine gate_guard (by rfl) ?_; dsimp only; refine goesL_ (some 7) rfl rfl Try.func69 (by kernel_rfl) rfl #[.int .i64 0, .int .i64 0, .int .i64 9, .slice Ao25 y817.length co25] rfl (by (try simp only [List.map_toArray, List.map_cons, List.map_nil]); first | done | rfl | (simp only [List.length_drop, List.length_take]; rfl)) ?_; (with_reducible refine (L28_ask.calls 0 0 9 (fun k_ => some k_ = (.slice Ao25 y817.length co25 : Value).ownBlock) (.slice Ao25 y817.length co25) y817 t820 t821 t822 t823 t824 t825 t826 t827 t828 t829 w _ ?side1 ?side2 A6.out).mono ?_); (case side1 => repeat (first | (with_reducible first | exact HB.out | apply below_alloc | apply pw_below_drewN | apply below_drew1) | exact HB.out)); (case side2 => exact Kd.R_tight rfl HO819.out); rintro e w26 ⟨v830, rfl, ho0, hb, hkp⟩; refine ⟨_, rfl, ?_⟩; have n0_ := Aside0.mk (Kd.R_mono (ok' := fun k_ => some k_ ≠ (v830 : Value).ownBlock) (Kd.R_keptB (HO807.out) hkp (fun k_ hk_ hs_ => (hk_.2) hs_)) (fun k_ hk_ => fun e_ => Or.elim (ho0.1 k_ e_.symm) (fun hs_ => hk_.2.1 hs_) (fun hn_ => Nat.not_le.2 hk_.2.2 hn_))); have n1_ := Aside0.mk (Kd.R_mono (ok' := fun k_ => some k_ ≠ (.slice Ao20 t805.length co20 : Value).ownBlock) ho0 (fun k_ hk_ => Or.elim hk_ (fun hs_ => fun e_ => (((HO807.out).1 k_ e_.symm).2) hs_) (fun hn_ => (Kd.fresh' (Kd.R_lt (by (with_reducible repeat (first | apply Kd.R_alloc | apply Kd.R_drewN | apply Kd.R_drew)); exact HO807.out)) k_ hn_)))); have n2_ := Aside0.mk (hb); clear HO807; clear HB; clear HO819; have HO807 := n0_; have HO831 := n1_; have HB := n2_; clear n0_ n1_ n2_; (try clear hb); (try clear hkp); (try clear ho0)) | ((with_reducible refine gate_callee (f := 72) rfl ?_); (with_reducible refine gate_dst (N := 8) rfl ?_); refine gate_guard (by rfl) ?_; dsimp only; refine goesL_ (some 8) rfl rfl Try.func72 (by kernel_rfl) rfl #[] rfl (by (try simp only [List.map_toArray, List.map_cons, List.map_nil]); first | done | rfl | (simp only [List.length_drop, List.length_take]; rfl)) ?_; (with_reducible refine (L28_d1.calls  t832 t833 t834 t835 _ A7.out).mono ?_); rintro e w27 ⟨rfl, hb⟩; refine ⟨_, rfl, ?_⟩; have n0_ := Aside0.mk (Kd.R_below (by (with_reducible repeat (first | apply Kd.R_alloc | apply Kd.R_drewN | apply Kd.R_drew)); exact HO807.out) hb); have n1_ := Aside0.mk (Kd.R_below (by (with_reducible repeat (first | apply Kd.R_alloc | apply Kd.R_drewN | apply Kd.R_drew)); exact HO831.out) hb); have n2_ := Aside0.mk (below_step (by repeat (first | (with_reducible first | exact HB.out | apply below_alloc | apply pw_below_drewN | apply below_drew1) | exact HB.out)) hb); clear HO807; clear HO831; clear HB; have HO807 := n0_; have HO831 := n1_; have HB := n2_; clear n0_ n1_ n2_; (try clear hb); (try clear hb2); (try clear hk); (try clear hi); obtain ⟨Ao28, co28, eo28⟩ := Kd.R_slice HO831.out; subst eo28) | ((with_reducible refine gate_callee (f := 70) rfl ?_); (with_reducible refine gate_dst (N := 9) rfl ?_); refine gate_guard (by rfl) ?_; dsimp only; refine goesL_ (some 9) rfl rfl Try.func70 (by kernel_rfl) rfl #[.agg #[.int .i64 t820, .int .i64 t821, .int .i64 t822, .int .i64 t823, .int .i64 t824, .int .i64 t825, .int .i64 t826, .int .i64 t827, .int .i64 t828, .slice Ao28 t829.length co28], .agg #[.int .i64 t832, .int .i64 t833, .int .i64 t834, .int .i64 t835]] rfl (by (try simp only [List.map_toArray, List.map_cons, List.map_nil]); first | done | rfl | (simp only [List.length_drop, List.length_take]; rfl)) ?_; (with_reducible refine (L28_by.calls k t820 t821 t822 t823 t824 t825 t826 t827 t828 _ _ t829 t832 t833 t834 t835 true _ ?side1 ?side2 A8.out).mono ?_); (case side1 => repeat (first | exact (Kd.R_reads' HO831.out).2.2 | (with_reducible refine Kd.C_alloc ?_ _) | (with_reducible refine Kd.C_drewN ?_ _) | (with_reducible refine Kd.C_drew ?_))); (case side2 => exact (Kd.R_reads' HO831.out).2.1); rintro e w29 ⟨rfl, hb⟩; refine ⟨_, rfl, ?_⟩; have n0_ := Aside0.mk (Kd.R_below (by (with_reducible repeat (first | apply Kd.R_alloc | apply Kd.R_drewN | apply Kd.R_drew)); exact HO807.out) hb); have n1_ := Aside0.mk (Kd.R_below (by (with_reducible repeat (first | apply Kd.R_alloc | apply Kd.R_drewN | apply Kd.R_drew)); exact HO831.out) hb); have n2_ := Aside0.mk (below_step (by repeat (first | (with_reducible first | exact HB.out | apply below_alloc | apply pw_below_drewN | apply below_drew1) | exact HB.out)) hb); clear HO807; clear HO831; clear HB; have HO807 := n0_; have HO831 := n1_; have HB := n2_; clear n0_ n1_ n2_; (try clear hb); (try clear hb2); (try clear hk); (try clear hi)) | ((with_reducible refine gate_callee (f := 69) rfl ?_); (with_reducible refine gate_dst (N := 12) rfl ?_); refine gate_guard (by rfl) ?_; dsimp only; refine goesL_ (some 12) rfl rfl Try.func69 (by kernel_rfl) rfl #[.int .i64 0, .int .i64 1, .int .i64 9, .slice none 0 0] rfl (by (try simp only [List.map_toArray, List.map_cons, List.map_nil]); first | done | rfl | (simp only [List.length_drop, List.length_take]; rfl)) ?_; (refine (L28_ask.calls 0 1 9 (fun k_ => some k_ = (.slice none 0 0 : Value).ownBlock) (.slice none 0 0) ([] : List (S29)) t837 t838 t839 t840 t841 t842 t843 t844 t845 t846 w _ ?side1 ?side2 A10.out).mono ?_); (case side1 => repeat (first | (with_reducible first | exact HB.out | apply below_alloc | apply pw_below_drewN | apply below_drew1) | exact HB.out)); (case side2 => exact Kd.R_nil _ _ _ _ _); rintro e w30 ⟨v847, rfl, ho0, hb, hkp⟩; refine ⟨_, rfl, ?_⟩; have n0_ := Aside0.mk (Kd.R_mono (ok' := fun k_ => some k_ ≠ (.slice Ao28 t829.length co28 : Value).ownBlock ∧ some k_ ≠ (v847 : Value).ownBlock) (Kd.R_keptB (HO807.out) hkp (fun k_ hk_ hs_ => (fun e_ => by simp [Value.ownBlock] at e_) hs_)) (fun k_ hk_ => ⟨hk_.1, fun e_ => Or.elim (ho0.1 k_ e_.symm) (fun hs_ => hk_.2.1 hs_) (fun hn_ => Nat.not_le.2 hk_.2.2 hn_)⟩)); have n1_ := Aside0.mk (Kd.R_mono (ok' := fun k_ => some k_ ≠ (.slice Ao20 t805.length co20 : Value).ownBlock ∧ some k_ ≠ (v847 : Value).ownBlock) (Kd.R_keptB (HO831.out) hkp (fun k_ hk_ hs_ => (fun e_ => by simp [Value.ownBlock] at e_) hs_)) (fun k_ hk_ => ⟨hk_.1, fun e_ => Or.elim (ho0.1 k_ e_.symm) (fun hs_ => hk_.2.1 hs_) (fun hn_ => Nat.not_le.2 hk_.2.2 hn_)⟩)); have n2_ := Aside0.mk (Kd.R_mono (ok' := fun k_ => some k_ ≠ (.slice Ao20 t805.length co20 : Value).ownBlock ∧ some k_ ≠ (.slice Ao28 t829.length co28 : Value).ownBlock) ho0 (fun k_ hk_ => ⟨Or.elim hk_ (fun hs_ => absurd hs_ (by simp [Value.ownBlock])) (fun hn_ => (Kd.fresh' (Kd.R_lt (by (with_reducible repeat (first | apply Kd.R_alloc | apply Kd.R_drewN | apply Kd.R_drew)); exact HO807.out)) k_ hn_)), Or.elim hk_ (fun hs_ => absurd hs_ (by simp [Value.ownBlock])) (fun hn_ => (Kd.fresh' (Kd.R_lt (by (with_reducible repeat (first | apply Kd.R_alloc | apply Kd.R_drewN | apply Kd.R_drew)); exact HO831.out)) k_ hn_))⟩)); have n3_ := Aside0.mk (hb); clear HO807; clear HO831; clear HB; have HO807 := n0_; have HO831 := n1_; have HO848 := n2_; have HB := n3_; clear n0_ n1_ n2_ n3_; (try clear hb); (try clear hkp); (try clear ho0)) | ((with_reducible refine gate_callee (f := 73) rfl ?_); (with_reducible refine gate_dst (N := 13) rfl ?_); refine gate_guard (by rfl) ?_; dsimp only; refine goesL_ (some 13) rfl rfl Try.func73 (by kernel_rfl) rfl #[] rfl (by (try simp only [List.map_toArray, List.map_cons, List.map_nil]); first | done | rfl | (simp only [List.length_drop, List.length_take]; rfl)) ?_; (with_reducible refine (L28_c0.calls  t849 t850 t851 t852 _ A11.out).mono ?_); rintro e w31 ⟨rfl, hb⟩; refine ⟨_, rfl, ?_⟩; have n0_ := Aside0.mk (Kd.R_below (by (with_reducible repeat (first | apply Kd.R_alloc | apply Kd.R_drewN | apply Kd.R_drew)); exact HO807.out) hb); have n1_ := Aside0.mk (Kd.R_below (by (with_reducible repeat (first | apply Kd.R_alloc | apply Kd.R_drewN | apply Kd.R_drew)); exact HO831.out) hb); have n2_ := Aside0.mk (Kd.R_below (by (with_reducible repeat (first | apply Kd.R_alloc | apply Kd.R_drewN | apply Kd.R_drew)); exact HO848.out) hb); have n3_ := Aside0.mk (below_step (by repeat (first | (with_reducible first | exact HB.out | apply below_alloc | apply pw_below_drewN | apply below_drew1) | exact HB.out)) hb); clear HO807; clear HO831; clear HO848; clear HB; have HO807 := n0_; have HO831 := n1_; have HO848 := n2_; have HB := n3_; clear n0_ n1_ n2_ n3_; (try clear hb); (try clear hb2); (try clear hk); (try clear hi); obtain ⟨Ao32, co32, eo32⟩ := Kd.R_slice HO848.out; subst eo32) | ((with_reducible refine gate_callee (f := 70) rfl ?_); (with_reducible refine gate_dst (N := 14) rfl ?_); refine gate_guard (by rfl) ?_; dsimp only; refine goesL_ (some 14) rfl rfl Try.func70 (by kernel_rfl) rfl #[.agg #[.int .i64 t837, .int .i64 t838, .int .i64 t839, .int .i64 t840, .int .i64 t841, .int .i64 t842, .int .i64 t843, .int .i64 t844, .int .i64 t845, .slice Ao32 t846.length co32], .agg #[.int .i64 t849, .int .i64 t850, .int .i64 t851, .int .i64 t852]] rfl (by (try simp only [List.map_toArray, List.map_cons, List.map_nil]); first | done | rfl | (simp only [List.length_drop, List.length_take]; rfl)) ?_; (with_reducible refine (L28_by.calls k t837 t838 t839 t840 t841 t842 t843 t844 t845 _ _ t846 t849 t850 t851 t852 true _ ?side1 ?side2 A12.out).mono ?_); (case side1 => repeat (first | exact (Kd.R_reads' HO848.out).2.2 | (with_reducible refine Kd.C_alloc ?_ _) | (with_reducible refine Kd.C_drewN ?_ _) | (with_reducible refine Kd.C_drew ?_))); (case side2 => exact (Kd.R_reads' HO848.out).2.1); rintro e w33 ⟨rfl, hb⟩; refine ⟨_, rfl, ?_⟩; have n0_ := Aside0.mk (Kd.R_below (by (with_reducible repeat (first | apply Kd.R_alloc | apply Kd.R_drewN | apply Kd.R_drew)); exact HO807.out) hb); have n1_ := Aside0.mk (Kd.R_below (by (with_reducible repeat (first | apply Kd.R_alloc | apply Kd.R_drewN | apply Kd.R_drew)); exact HO831.out) hb); have n2_ := Aside0.mk (Kd.R_below (by (with_reducible repeat (first | apply Kd.R_alloc | apply Kd.R_drewN | apply Kd.R_drew)); exact HO848.out) hb); have n3_ := Aside0.mk (below_step (by repeat (first | (with_reducible first | exact HB.out | apply below_alloc | apply pw_below_drewN | apply below_drew1) | exact HB.out)) hb); clear HO807; clear HO831; clear HO848; clear HB; have HO807 := n0_; have HO831 := n1_; have HO848 := n2_; have HB := n3_; clear n0_ n1_ n2_ n3_; (try clear hb); (try clear hb2); (try clear hk); (try clear hi)) | ((with_reducible refine gate_callee (f := 71) rfl ?_); (with_reducible refine gate_dst (N := 17) rfl ?_); refine gate_guard (by rfl) ?_; dsimp only; refine goesL_ (some 17) rfl rfl Try.func71 (by kernel_rfl) rfl #[] rfl (by (try simp only [List.map_toArray, List.map_cons, List.map_nil]); first | done | rfl | (simp only [List.length_drop, List.length_take]; rfl)) ?_; (with_reducible refine (L28_u3.calls  t854 t855 t856 t857 _ A14.out).mono ?_); rintro e w34 ⟨rfl, hb⟩; refine ⟨_, rfl, ?_⟩; have n0_ := Aside0.mk (Kd.R_below (by (with_reducible repeat (first | apply Kd.R_alloc | apply Kd.R_drewN | apply Kd.R_drew)); exact HO807.out) hb); have n1_ := Aside0.mk (Kd.R_below (by (with_reducible repeat (first | apply Kd.R_alloc | apply Kd.R_drewN | apply Kd.R_drew)); exact HO831.out) hb); have n2_ := Aside0.mk (Kd.R_below (by (with_reducible repeat (first | apply Kd.R_alloc | apply Kd.R_drewN | apply Kd.R_drew)); exact HO848.out) hb); have n3_ := Aside0.mk (below_step (by repeat (first | (with_reducible first | exact HB.out | apply below_alloc | apply pw_below_drewN | apply below_drew1) | exact HB.out)) hb); clear HO807; clear HO831; clear HO848; clear HB; have HO807 := n0_; have HO831 := n1_; have HO848 := n2_; have HB := n3_; clear n0_ n1_ n2_ n3_; (try clear hb); (try clear hb2); (try clear hk); (try clear hi)) | ((with_reducible refine gate_dst (N := 18) rfl ?_); (try (refine gate_guard (by rfl) ?_; dsimp only)); refine Kd.R_lit k29 _ 29 ?hg (N := 18) ?hd (xs := ([(⟨t854, t855, t856, t857⟩ : S29)] : List (S29))) (inner := [.int .i64 t854, .int .i64 t855, .int .i64 t856, .int .i64 t857]) (ok := fun _ => True) (okp := fun _ => True) ?hr ?hp (fun _ hk => hk) trivial (Below.refl _ _) (Nat.le_refl _) (by simp) ?_; (case hd => rfl); (case hg => rfl); (case hr => first | (go_simp; done) | (go_simp; rfl)); (case hp => exact (Reps.c4 (show Kd.M k29 _ _ _ (⟨t854, t855, t856, t857⟩ : S29) [.int .i64 t854, .int .i64 t855, .int .i64 t856, .int .i64 t857] from (k29_mkM _ _ _ (⟨t854, t855, t856, t857⟩ : S29) )) (Reps.none _ _))); intro v859 w35 ho36 hb hg_ hnew_; clear hg_ hnew_; (first | rw [← Ny858.out] at ho36 | (simp only [Int.reduceToNat] at ho36; rw [← Ny858.out] at ho36)); have n0_ := Aside0.mk (Kd.R_elder' (by (with_reducible repeat (first | apply Kd.R_alloc | apply Kd.R_drewN | apply Kd.R_drew)); exact HO807.out) (Kd.R_base ho36) hb); have n1_ := Aside0.mk (Kd.R_elder' (by (with_reducible repeat (first | apply Kd.R_alloc | apply Kd.R_drewN | apply Kd.R_drew)); exact HO831.out) (Kd.R_base ho36) hb); have n2_ := Aside0.mk (Kd.R_elder' (by (with_reducible repeat (first | apply Kd.R_alloc | apply Kd.R_drewN | apply Kd.R_drew)); exact HO848.out) (Kd.R_base ho36) hb); have n3_ := Aside0.mk (Kd.R_lower (Kd.R_new' (Kd.R_new' (Kd.R_new' ho36 (Kd.R_lt (by (with_reducible repeat (first | apply Kd.R_alloc | apply Kd.R_drewN | apply Kd.R_drew)); exact HO807.out))) (Kd.R_lt (by (with_reducible repeat (first | apply Kd.R_alloc | apply Kd.R_drewN | apply Kd.R_drew)); exact HO831.out))) (Kd.R_lt (by (with_reducible repeat (first | apply Kd.R_alloc | apply Kd.R_drewN | apply Kd.R_drew)); exact HO848.out))) (below_size (by repeat (first | (with_reducible first | exact HB.out | apply below_alloc | apply pw_below_drewN | apply below_drew1) | exact HB.out)))); have n4_ := Aside0.mk (below_step (by repeat (first | (with_reducible first | exact HB.out | apply below_alloc | apply pw_below_drewN | apply below_drew1) | exact HB.out)) hb); clear HO807; clear HO831; clear HO848; clear HB; have HO807 := n0_; have HO831 := n1_; have HO848 := n2_; have HO860 := n3_; have HB := n4_; clear n0_ n1_ n2_ n3_ n4_; clear hb ho36; obtain ⟨Ao37, co37, eo37⟩ := Kd.R_slice HO860.out; subst eo37) | ((with_reducible refine gate_callee (f := 69) rfl ?_); (with_reducible refine gate_dst (N := 19) rfl ?_); refine gate_guard (by rfl) ?_; dsimp only; refine goesL_ (some 19) rfl rfl Try.func69 (by kernel_rfl) rfl #[.int .i64 0, .int .i64 0, .int .i64 15, .slice Ao37 y858.length co37] rfl (by (try simp only [List.map_toArray, List.map_cons, List.map_nil]); first | done | rfl | (simp only [List.length_drop, List.length_take]; rfl)) ?_; (with_reducible refine (L28_ask.calls 0 0 15 (fun k_ => some k_ = (.slice Ao37 y858.length co37 : Value).ownBlock) (.slice Ao37 y858.length co37) y858 t861 t862 t863 t864 t865 t866 t867 t868 t869 t870 w _ ?side1 ?side2 A15.out).mono ?_); (case side1 => repeat (first | (with_reducible first | exact HB.out | apply below_alloc | apply pw_below_drewN | apply below_drew1) | exact HB.out)); (case side2 => exact Kd.R_tight rfl HO860.out); rintro e w38 ⟨v871, rfl, ho0, hb, hkp⟩; refine ⟨_, rfl, ?_⟩; have n0_ := Aside0.mk (Kd.R_mono (ok' := fun k_ => some k_ ≠ (.slice Ao28 t829.length co28 : Value).ownBlock ∧ some k_ ≠ (.slice Ao32 t846.length co32 : Value).ownBlock ∧ some k_ ≠ (v871 : Value).ownBlock) (Kd.R_keptB (HO807.out) hkp (fun k_ hk_ hs_ => (hk_.2) hs_)) (fun k_ hk_ => ⟨hk_.1.1.1, hk_.1.1.2, fun e_ => Or.elim (ho0.1 k_ e_.symm) (fun hs_ => hk_.2.1 hs_) (fun hn_ => Nat.not_le.2 hk_.2.2 hn_)⟩)); have n1_ := Aside0.mk (Kd.R_mono (ok' := fun k_ => some k_ ≠ (.slice Ao20 t805.length co20 : Value).ownBlock ∧ some k_ ≠ (.slice Ao32 t846.length co32 : Value).ownBlock ∧ some k_ ≠ (v871 : Value).ownBlock) (Kd.R_keptB (HO831.out) hkp (fun k_ hk_ hs_ => (hk_.2) hs_)) (fun k_ hk_ => ⟨hk_.1.1.1, hk_.1.1.2, fun e_ => Or.elim (ho0.1 k_ e_.symm) (fun hs_ => hk_.2.1 hs_) (fun hn_ => Nat.not_le.2 hk_.2.2 hn_)⟩)); have n2_ := Aside0.mk (Kd.R_mono (ok' := fun k_ => some k_ ≠ (.slice Ao20 t805.length co20 : Value).ownBlock ∧ some k_ ≠ (.slice Ao28 t829.length co28 : Value).ownBlock ∧ some k_ ≠ (v871 : Value).ownBlock) (Kd.R_keptB (HO848.out) hkp (fun k_ hk_ hs_ => (hk_.2) hs_)) (fun k_ hk_ => ⟨hk_.1.1.1, hk_.1.1.2, fun e_ => Or.elim (ho0.1 k_ e_.symm) (fun hs_ => hk_.2.1 hs_) (fun hn_ => Nat.not_le.2 hk_.2.2 hn_)⟩)); have n3_ := Aside0.mk (Kd.R_mono (ok' := fun k_ => some k_ ≠ (.slice Ao20 t805.length co20 : Value).ownBlock ∧ some k_ ≠ (.slice Ao28 t829.length co28 : Value).ownBlock ∧ some k_ ≠ (.slice Ao32 t846.length co32 : Value).ownBlock) ho0 (fun k_ hk_ => ⟨Or.elim hk_ (fun hs_ => fun e_ => (((HO807.out).1 k_ e_.symm).2) hs_) (fun hn_ => (Kd.fresh' (Kd.R_lt (by (with_reducible repeat (first | apply Kd.R_alloc | apply Kd.R_drewN | apply Kd.R_drew)); exact HO807.out)) k_ hn_)), Or.elim hk_ (fun hs_ => fun e_ => (((HO831.out).1 k_ e_.symm).2) hs_) (fun hn_ => (Kd.fresh' (Kd.R_lt (by (with_reducible repeat (first | apply Kd.R_alloc | apply Kd.R_drewN | apply Kd.R_drew)); exact HO831.out)) k_ hn_)), Or.elim hk_ (fun hs_ => fun e_ => (((HO848.out).1 k_ e_.symm).2) hs_) (fun hn_ => (Kd.fresh' (Kd.R_lt (by (with_reducible repeat (first | apply Kd.R_alloc | apply Kd.R_drewN | apply Kd.R_drew)); exact HO848.out)) k_ hn_))⟩)); have n4_ := Aside0.mk (hb); clear HO807; clear HO831; clear HO848; clear HB; clear HO860; have HO807 := n0_; have HO831 := n1_; have HO848 := n2_; have HO872 := n3_; have HB := n4_; clear n0_ n1_ n2_ n3_ n4_; (try clear hb); (try clear hkp); (try clear ho0)) | ((with_reducible refine gate_callee (f := 71) rfl ?_); (with_reducible refine gate_dst (N := 20) rfl ?_); refine gate_guard (by rfl) ?_; dsimp only; refine goesL_ (some 20) rfl rfl Try.func71 (by kernel_rfl) rfl #[] rfl (by (try simp only [List.map_toArray, List.map_cons, List.map_nil]); first | done | rfl | (simp only [List.length_drop, List.length_take]; rfl)) ?_; (with_reducible refine (L28_u3.calls  t873 t874 t875 t876 _ A16.out).mono ?_); rintro e w39 ⟨rfl, hb⟩; refine ⟨_, rfl, ?_⟩; have n3_ := Aside0.mk (Kd.R_below (by (with_reducible repeat (first | apply Kd.R_alloc | apply Kd.R_drewN | apply Kd.R_drew)); exact HO872.out) hb); have n4_ := Aside0.mk (below_step (by repeat (first | (with_reducible first | exact HB.out | apply below_alloc | apply pw_below_drewN | apply below_drew1) | exact HB.out)) hb); clear HO807; clear HO831; clear HO848; clear HO872; clear HB; have HO872 := n3_; have HB := n4_; clear n3_ n4_; (try clear hb); (try clear hb2); (try clear hk); (try clear hi); obtain ⟨Ao40, co40, eo40⟩ := Kd.R_slice HO872.out; subst eo40) | ((with_reducible refine gate_callee (f := 70) rfl ?_); (with_reducible refine gate_dst (N := 21) rfl ?_); refine gate_guard (by rfl) ?_; dsimp only; refine goesL_ (some 21) rfl rfl Try.func70 (by kernel_rfl) rfl #[.agg #[.int .i64 t861, .int .i64 t862, .int .i64 t863, .int .i64 t864, .int .i64 t865, .int .i64 t866, .int .i64 t867, .int .i64 t868, .int .i64 t869, .slice Ao40 t870.length co40], .agg #[.int .i64 t873, .int .i64 t874, .int .i64 t875, .int .i64 t876]] rfl (by (try simp only [List.map_toArray, List.map_cons, List.map_nil]); first | done | rfl | (simp only [List.length_drop, List.length_take]; rfl)) ?_; (with_reducible refine (L28_by.calls k t861 t862 t863 t864 t865 t866 t867 t868 t869 _ _ t870 t873 t874 t875 t876 true _ ?side1 ?side2 A17.out).mono ?_); (case side1 => repeat (first | exact (Kd.R_reads' HO872.out).2.2 | (with_reducible refine Kd.C_alloc ?_ _) | (with_reducible refine Kd.C_drewN ?_ _) | (with_reducible refine Kd.C_drew ?_))); (case side2 => exact (Kd.R_reads' HO872.out).2.1); rintro e w41 ⟨rfl, hb⟩; refine ⟨_, rfl, ?_⟩; have n4_ := Aside0.mk (below_step (by repeat (first | (with_reducible first | exact HB.out | apply below_alloc | apply pw_below_drewN | apply below_drew1) | exact HB.out)) hb); clear HO872; clear HB; have HB := n4_; clear n4_; (try clear hb); (try clear hb2); (try clear hk); (try clear hi)))
  all_goals go_ret
  all_goals exact ⟨by first | rfl | (simp [errW_none, errW_some] <;> rfl) | (simp [*, errW_none, errW_some] <;> rfl), by repeat (first | (with_reducible first | exact HB.out | apply below_alloc | apply pw_below_drewN | apply below_drew1) | exact HB.out)⟩


end Go.Proofs.Ytmfbpkjhabdcgaa.F
end
section
namespace Go.Proofs.Ytmfbpkjhabdcgaa.F
open Go.RowKit Go.Proofs.YtmfbpkjhabdcgaaW.PrintWords Go.Proofs.YtmfbpkjhabdcgaaW.PrintLast Go.Proofs.YtmfbpkjhabdcgaaW.PrintMore
set_option linter.unusedVariables false
set_option linter.unusedSimpArgs false
theorem le_fuel {α : Type} {f : Nat → Option α} (h : ∀ k, LeO (f k) (f (k + 1))) {n m : Nat} (hnm : n ≤ m) {r : α} (e : f n = some r) : f m = some r := by
  induction hnm with
  | refl => exact e
  | step _ ih => exact h _ _ ih
end Go.Proofs.Ytmfbpkjhabdcgaa.F
end
section
namespace Go.Proofs.Ytmfbpkjhabdcgaa.F
open Go.RowKit Go.Proofs.YtmfbpkjhabdcgaaW.PrintWords Go.Proofs.YtmfbpkjhabdcgaaW.PrintLast Go.Proofs.YtmfbpkjhabdcgaaW.PrintMore
set_option linter.unusedVariables false
set_option linter.unusedSimpArgs false
theorem wrap_id {x : Int} (h0 : -9223372036854775808 ≤ x) (h1 : x ≤ 9223372036854775807) : wrap64 x = x := by unfold wrap64; omega
end Go.Proofs.Ytmfbpkjhabdcgaa.F
end
section
namespace Go.Proofs.Ytmfbpkjhabdcgaa.F
open Go.RowKit Go.Proofs.YtmfbpkjhabdcgaaW.PrintWords Go.Proofs.YtmfbpkjhabdcgaaW.PrintLast Go.Proofs.YtmfbpkjhabdcgaaW.PrintMore
set_option linter.unusedVariables false
set_option linter.unusedSimpArgs false
theorem tmod_pos {a m : Int} (h : 0 ≤ a) : Int.tmod a m = a % m := Int.tmod_eq_emod_of_nonneg h
end Go.Proofs.Ytmfbpkjhabdcgaa.F
end
section
namespace Go.Proofs.Ytmfbpkjhabdcgaa.F
open Go.RowKit Go.Proofs.YtmfbpkjhabdcgaaW.PrintWords Go.Proofs.YtmfbpkjhabdcgaaW.PrintLast Go.Proofs.YtmfbpkjhabdcgaaW.PrintMore
set_option linter.unusedVariables false
set_option linter.unusedSimpArgs false
theorem tmod_neg {a m : Int} (h : a < 0) : Int.tmod a m = -((-a) % m) := by
  have := Int.neg_tmod (-a) m
  rw [Int.neg_neg] at this
  rw [this, Int.tmod_eq_emod_of_nonneg (by omega)]
end Go.Proofs.Ytmfbpkjhabdcgaa.F
end
section
namespace Go.Proofs.Ytmfbpkjhabdcgaa.F
open Go.RowKit Go.Proofs.YtmfbpkjhabdcgaaW.PrintWords Go.Proofs.YtmfbpkjhabdcgaaW.PrintLast Go.Proofs.YtmfbpkjhabdcgaaW.PrintMore
set_option linter.unusedVariables false
set_option linter.unusedSimpArgs false
theorem mod_law (a m : Int) (h0 : 1 ≤ m) (h1 : m ≤ 4611686018427387904) : ∃ t, K_Mod.f a m = some t ∧ 0 ≤ t ∧ t < m := by
  unfold K_Mod.f
  rw [if_neg (by omega), if_neg (by omega)]
  by_cases h : 0 ≤ a
  · have e1 := Int.emod_nonneg a (show m ≠ 0 by omega)
    have e2 := Int.emod_lt_of_pos a (show 0 < m by omega)
    rw [tmod_pos h, if_neg (by omega)]
    exact ⟨_, rfl, e1, e2⟩
  · have e1 := Int.emod_nonneg (-a) (show m ≠ 0 by omega)
    have e2 := Int.emod_lt_of_pos (-a) (show 0 < m by omega)
    rw [tmod_neg (by omega)]
    by_cases hz : -((-a) % m) < 0
    · rw [if_pos hz, wrap_id (by omega) (by omega)]
      exact ⟨_, rfl, by omega, by omega⟩
    · rw [if_neg hz]
      exact ⟨_, rfl, by omega, by omega⟩
end Go.Proofs.Ytmfbpkjhabdcgaa.F
end
section
namespace Go.Proofs.Ytmfbpkjhabdcgaa.F
open Go.RowKit Go.Proofs.YtmfbpkjhabdcgaaW.PrintWords Go.Proofs.YtmfbpkjhabdcgaaW.PrintLast Go.Proofs.YtmfbpkjhabdcgaaW.PrintMore
set_option linter.unusedVariables false
set_option linter.unusedSimpArgs false
/-- The error of a call. -/
def errC (a b c d : Int) : Int :=
  if a < 1 ∨ a > 3 then 11 else if b < 0 ∨ b ≥ 64 ∨ d < 0 ∨ d > 1099511627776 then 2 else if (a = 3 ∧ (c < 1 ∨ c > 8)) ∨ (a ≠ 3 ∧ c ≠ 0) then 2 else 0
end Go.Proofs.Ytmfbpkjhabdcgaa.F
end
section
namespace Go.Proofs.Ytmfbpkjhabdcgaa.F
open Go.RowKit Go.Proofs.YtmfbpkjhabdcgaaW.PrintWords Go.Proofs.YtmfbpkjhabdcgaaW.PrintLast Go.Proofs.YtmfbpkjhabdcgaaW.PrintMore
set_option linter.unusedVariables false
set_option linter.unusedSimpArgs false
theorem call_err {k : Nat} (hk : 2 ≤ k) (a b c d : Int) : call_Check.f k a b c d = some (errC a b c d) := by
  obtain ⟨k, rfl⟩ : ∃ j, k = j + 2 := ⟨k - 2, by omega⟩
  unfold call_Check.f errC
  simp only [call_Check.j0, call_Check.j1, decide_eq_true_eq, beq_iff_eq, if_true]
  repeat' split
  all_goals first | rfl | (exfalso; omega) | (simp_all; done) | (exfalso; simp_all; omega)
end Go.Proofs.Ytmfbpkjhabdcgaa.F
end
section
namespace Go.Proofs.Ytmfbpkjhabdcgaa.F
open Go.RowKit Go.Proofs.YtmfbpkjhabdcgaaW.PrintWords Go.Proofs.YtmfbpkjhabdcgaaW.PrintLast Go.Proofs.YtmfbpkjhabdcgaaW.PrintMore
set_option linter.unusedVariables false
set_option linter.unusedSimpArgs false
abbrev keyOf3 (x : S29) : Int × Int × Int := (x.f0, x.f1, x.f2)
end Go.Proofs.Ytmfbpkjhabdcgaa.F
end
section
namespace Go.Proofs.Ytmfbpkjhabdcgaa.F
open Go.RowKit Go.Proofs.YtmfbpkjhabdcgaaW.PrintWords Go.Proofs.YtmfbpkjhabdcgaaW.PrintLast Go.Proofs.YtmfbpkjhabdcgaaW.PrintMore
set_option linter.unusedVariables false
set_option linter.unusedSimpArgs false
def okC (x : S29) : Prop := errC x.f0 x.f1 x.f2 x.f3 = 0
end Go.Proofs.Ytmfbpkjhabdcgaa.F
end
section
namespace Go.Proofs.Ytmfbpkjhabdcgaa.F
open Go.RowKit Go.Proofs.YtmfbpkjhabdcgaaW.PrintWords Go.Proofs.YtmfbpkjhabdcgaaW.PrintLast Go.Proofs.YtmfbpkjhabdcgaaW.PrintMore
set_option linter.unusedVariables false
set_option linter.unusedSimpArgs false
/-- A valid table. -/
structure ValidT (a : Int) (l : List S29) : Prop where
  lo : 1 ≤ a
  hi : a ≤ 32
  len : (l.length : Int) ≤ a
  ok : ∀ x ∈ l, okC x
  sorted : l.Pairwise (fun x y => x.f3 ≤ y.f3)
  keys : l.Pairwise (fun x y => keyOf3 x ≠ keyOf3 y)
end Go.Proofs.Ytmfbpkjhabdcgaa.F
end
section
namespace Go.Proofs.Ytmfbpkjhabdcgaa.F
open Go.RowKit Go.Proofs.YtmfbpkjhabdcgaaW.PrintWords Go.Proofs.YtmfbpkjhabdcgaaW.PrintLast Go.Proofs.YtmfbpkjhabdcgaaW.PrintMore
set_option linter.unusedVariables false
set_option linter.unusedSimpArgs false
theorem same_key (a b : S29) : sameKey a b = true ↔ keyOf3 a = keyOf3 b := by
  unfold sameKey keyOf3
  simp only [Bool.and_eq_true, beq_iff_eq, Prod.mk.injEq]
end Go.Proofs.Ytmfbpkjhabdcgaa.F
end
section
namespace Go.Proofs.Ytmfbpkjhabdcgaa.F
open Go.RowKit Go.Proofs.YtmfbpkjhabdcgaaW.PrintWords Go.Proofs.YtmfbpkjhabdcgaaW.PrintLast Go.Proofs.YtmfbpkjhabdcgaaW.PrintMore
set_option linter.unusedVariables false
set_option linter.unusedSimpArgs false
theorem tabRun_ok (all : List S29) (hok : ∀ x ∈ all, okC x) (hs : all.Pairwise (fun x y => x.f3 ≤ y.f3)) (hk : all.Pairwise (fun x y => keyOf3 x ≠ keyOf3 y)) :
    ∀ (rest pre : List S29) (L : List (Int × Int × Int)), all = pre ++ rest → (∀ q, q ∈ L ↔ ∃ x ∈ pre, keyOf3 x = q) → tabRun all rest pre.length L = some (0, 0)
  | [], _, _, _, _ => rfl
  | x :: r, pre, L, e, hL => by
    have hx := hok x (by rw [e]; simp)
    unfold tabRun
    rw [call_err (by omega), show errC x.f0 x.f1 x.f2 x.f3 = 0 from hx]
    simp only [Option.bind_some, if_true]
    rw [e] at hs hk
    rw [List.pairwise_append] at hs hk
    have h1 : ¬ (pre.length > 0 ∧ x.f3 < (rd_T29 all ((pre.length : Int) - 1)).f3) := by
      rintro ⟨h0, hlt⟩
      have hm : rd_T29 all ((pre.length : Int) - 1) ∈ pre := by
        rw [e]
        have : ((pre.length : Int) - 1).toNat = pre.length - 1 := by omega
        simp only [rd_T29, this, List.getD_eq_getElem?_getD]
        rw [List.getElem?_append_left (by omega), List.getElem?_eq_getElem (by omega)]
        exact List.getElem_mem _
      have := hs.2.2 _ hm x List.mem_cons_self
      omega
    have h2 : ¬ (x.f0, x.f1, x.f2) ∈ L := by
      intro h
      obtain ⟨y, hy, ey⟩ := (hL _).1 h
      exact hk.2.2 y hy x List.mem_cons_self ey
    rw [if_neg h1, if_neg h2]
    have := tabRun_ok all hok (by rw [e]; exact List.pairwise_append.2 hs) (by rw [e]; exact List.pairwise_append.2 hk) r (pre ++ [x]) ((x.f0, x.f1, x.f2) :: L) (by rw [e]; simp) (fun q => by
      rw [List.mem_cons, hL]
      constructor
      · rintro (rfl | ⟨y, hy, ey⟩)
        · exact ⟨x, by simp, rfl⟩
        · exact ⟨y, by simp [hy], ey⟩
      · rintro ⟨y, hy, ey⟩
        rcases List.mem_append.1 hy with hy | hy
        · exact .inr ⟨y, hy, ey⟩
        · rw [List.mem_singleton] at hy
          subst hy
          exact .inl ey.symm)
    rw [List.length_append, List.length_singleton] at this
    exact this
end Go.Proofs.Ytmfbpkjhabdcgaa.F
end
section
namespace Go.Proofs.Ytmfbpkjhabdcgaa.F
open Go.RowKit Go.Proofs.YtmfbpkjhabdcgaaW.PrintWords Go.Proofs.YtmfbpkjhabdcgaaW.PrintLast Go.Proofs.YtmfbpkjhabdcgaaW.PrintMore
set_option linter.unusedVariables false
set_option linter.unusedSimpArgs false
theorem check_valid {a : Int} {l : List S29} (h : ValidT a l) : table_Check.f a l = some (0, 0) := by
  unfold table_Check.f
  have := h.lo; have := h.hi; have := h.len
  rw [if_neg (by omega), if_neg (by omega), if_neg (by omega)]
  exact tabRun_ok l h.ok h.sorted h.keys l [] [] rfl (fun q => by simp)
end Go.Proofs.Ytmfbpkjhabdcgaa.F
end
section
namespace Go.Proofs.Ytmfbpkjhabdcgaa.F
open Go.RowKit Go.Proofs.YtmfbpkjhabdcgaaW.PrintWords Go.Proofs.YtmfbpkjhabdcgaaW.PrintLast Go.Proofs.YtmfbpkjhabdcgaaW.PrintMore
set_option linter.unusedVariables false
set_option linter.unusedSimpArgs false
theorem valid_put {a : Int} {l : List S29} (h : ValidT a l) {c : S29} (hc : okC c) (hl : ∀ x ∈ l, x.f3 ≤ c.f3) (h1 : ¬ l.any (fun x => sameKey x c) = true) (h2 : ¬ (l.length : Int) = a) : ValidT a (l ++ [c]) := by
  refine ⟨h.lo, h.hi, ?_, ?_, ?_, ?_⟩
  · have := h.len; simp; omega
  · intro x hx
    rcases List.mem_append.1 hx with hx | hx
    · exact h.ok x hx
    · rw [List.mem_singleton] at hx; subst hx; exact hc
  · refine List.pairwise_append.2 ⟨h.sorted, List.pairwise_singleton _ _, fun x hx y hy => ?_⟩
    rw [List.mem_singleton] at hy; subst hy; exact hl x hx
  · refine List.pairwise_append.2 ⟨h.keys, List.pairwise_singleton _ _, fun x hx y hy e => ?_⟩
    rw [List.mem_singleton] at hy; subst hy
    exact h1 (List.any_eq_true.2 ⟨x, hx, (same_key _ _).2 e⟩)
end Go.Proofs.Ytmfbpkjhabdcgaa.F
end
section
namespace Go.Proofs.Ytmfbpkjhabdcgaa.F
open Go.RowKit Go.Proofs.YtmfbpkjhabdcgaaW.PrintWords Go.Proofs.YtmfbpkjhabdcgaaW.PrintLast Go.Proofs.YtmfbpkjhabdcgaaW.PrintMore
set_option linter.unusedVariables false
set_option linter.unusedSimpArgs false
theorem valid_nil {a : Int} (h0 : 1 ≤ a) (h1 : a ≤ 32) : ValidT a [] := ⟨h0, h1, by simp; omega, fun _ h => (List.not_mem_nil h).elim, List.Pairwise.nil, List.Pairwise.nil⟩
end Go.Proofs.Ytmfbpkjhabdcgaa.F
end
section
namespace Go.Proofs.Ytmfbpkjhabdcgaa.F
open Go.RowKit Go.Proofs.YtmfbpkjhabdcgaaW.PrintWords Go.Proofs.YtmfbpkjhabdcgaaW.PrintLast Go.Proofs.YtmfbpkjhabdcgaaW.PrintMore
set_option linter.unusedVariables false
set_option linter.unusedSimpArgs false
/-- A table that 'made' returns. -/
structure MadeP (l : List S29) (T : Int) : Prop where
  valid : ValidT 20 l
  t0 : 0 ≤ T
  late : ∀ x ∈ l, x.f3 ≤ T
end Go.Proofs.Ytmfbpkjhabdcgaa.F
end
section
namespace Go.Proofs.Ytmfbpkjhabdcgaa.F
open Go.RowKit Go.Proofs.YtmfbpkjhabdcgaaW.PrintWords Go.Proofs.YtmfbpkjhabdcgaaW.PrintLast Go.Proofs.YtmfbpkjhabdcgaaW.PrintMore
set_option linter.unusedVariables false
set_option linter.unusedSimpArgs false
/-- A question that 'made' returns. -/
structure AskP (car mode trip now cycle load full floor home : Int) : Prop where
  car : 1 ≤ car ∧ car ≤ 3
  mode : 0 ≤ mode ∧ mode ≤ 3
  trip : 0 ≤ trip ∧ trip ≤ 15
  now : 0 ≤ now ∧ now ≤ 100
  cycle : 1 ≤ cycle ∧ cycle ≤ 40
  load : load = 0 ∧ full = 500
  floor : 0 ≤ floor ∧ floor ≤ 7
  home : home = 2
end Go.Proofs.Ytmfbpkjhabdcgaa.F
end
section
namespace Go.Proofs.Ytmfbpkjhabdcgaa.F
open Go.RowKit Go.Proofs.YtmfbpkjhabdcgaaW.PrintWords Go.Proofs.YtmfbpkjhabdcgaaW.PrintLast Go.Proofs.YtmfbpkjhabdcgaaW.PrintMore
set_option linter.unusedVariables false
set_option linter.unusedSimpArgs false
theorem there_lawP (x0 : List Int) (x1 x2 x9 x10 : Int) (a : Int) (l : List S29) (c : S29) (hl : l.length ≤ 64) : ∀ (d k j : Nat) (b : Bool), j + d = l.length →
    L28_made.l1 (k + d) x0 x1 x2 x9 x10 b j a l c.f0 c.f1 c.f2 c.f3 = L28_made.l1 k x0 x1 x2 x9 x10 (b || (l.drop j).any (fun x => sameKey x c)) (l.length : Nat) a l c.f0 c.f1 c.f2 c.f3
  | 0, k, j, b, h => by
    rw [List.drop_eq_nil_of_le (by omega), show j = l.length by omega]
    simp
  | d + 1, k, j, b, h => by
    have ih := there_lawP x0 x1 x2 x9 x10 a l c hl d k (j + 1)
    have hj : j < l.length := by omega
    rw [show k + (d + 1) = (k + d) + 1 by omega]
    rw [show ∀ (k' : Nat) (b : Bool), L28_made.l1 (k' + 1) x0 x1 x2 x9 x10 b j a l c.f0 c.f1 c.f2 c.f3 = (if b = true then (L28_made.l1 k' x0 x1 x2 x9 x10 true ((j + 1 : Nat) : Int) a l c.f0 c.f1 c.f2 c.f3) else (L28_made.l1 k' x0 x1 x2 x9 x10 (sameKey l[j] c) ((j + 1 : Nat) : Int) a l c.f0 c.f1 c.f2 c.f3)) from fun k' b => by
      rw [L28_made.l1]
      have er : rd_T29 l (j : Int) = l[j] := by simp [rd_T29, List.getD_eq_getElem?_getD, List.getElem?_eq_getElem hj]
      rw [if_pos (by omega), if_pos (by omega), er, wrap_id (by omega) (by omega)]
      unfold sameKey
      split
      · rfl
      · split
        · rename_i h1
          split
          · rename_i h2
            simp [h1, h2]
          · rename_i h2
            have e2 : (l[j].f1 == c.f1) = false := beq_eq_false_iff_ne.mpr h2
            rw [e2]; simp
        · rename_i h1
          have e1 : (l[j].f0 == c.f0) = false := beq_eq_false_iff_ne.mpr h1
          rw [e1]; simp]
    rw [List.drop_eq_getElem_cons hj, List.any_cons]
    by_cases hb : b = true
    · rw [if_pos hb, ih true (by omega), hb]
      simp
    · rw [if_neg hb, ih _ (by omega)]
      have : b = false := by simpa using hb
      subst this
      simp
end Go.Proofs.Ytmfbpkjhabdcgaa.F
end
section
namespace Go.Proofs.Ytmfbpkjhabdcgaa.F
open Go.RowKit Go.Proofs.YtmfbpkjhabdcgaaW.PrintWords Go.Proofs.YtmfbpkjhabdcgaaW.PrintLast Go.Proofs.YtmfbpkjhabdcgaaW.PrintMore
set_option linter.unusedVariables false
set_option linter.unusedSimpArgs false
theorem made_end (x1 x2 T : Int) (hT : 0 ≤ T) (hT' : T ≤ 60) : ∃ car mode trip now cycle floor, AskP car mode trip now cycle 0 500 floor 2 ∧
    ∀ (k : Nat) (x0 : List Int) (i a : Int) (l : List S29), L28_made.j1 (k + 1) x0 x1 x2 T i false a l = some (a, l, car, mode, trip, now, cycle, 0, 500, floor, 2, []) := by
  obtain ⟨t, ht, t0, t1⟩ := mod_law x1 1048576 (by omega) (by omega)
  obtain ⟨m, hm, m0, m1⟩ := mod_law x2 40 (by omega) (by omega)
  refine ⟨1 + t % 3, t / 3 % 4, t / 12 % 16, T + m, 1 + t / 192 % 40, t / 8192 % 8, ⟨by omega, by omega, by omega, by omega, by omega, ⟨rfl, rfl⟩, by omega, rfl⟩, fun k x0 i a l => ?_⟩
  rw [L28_made.j1, if_neg (by decide), ht, hm]
  simp only [Option.bind_some]
  rw [Int.tdiv_eq_ediv_of_nonneg t0, Int.tdiv_eq_ediv_of_nonneg t0, Int.tdiv_eq_ediv_of_nonneg t0, Int.tdiv_eq_ediv_of_nonneg t0, wrap_id (x := t / 3) (by omega) (by omega), wrap_id (x := t / 12) (by omega) (by omega), wrap_id (x := t / 192) (by omega) (by omega), wrap_id (x := t / 8192) (by omega) (by omega)]
  rw [tmod_pos t0, tmod_pos (a := t / 3) (by omega), tmod_pos (a := t / 12) (by omega), tmod_pos (a := t / 192) (by omega), tmod_pos (a := t / 8192) (by omega)]
  rw [wrap_id (x := 1 + t % 3) (by omega) (by omega), wrap_id (x := T + m) (by omega) (by omega), wrap_id (x := 1 + t / 192 % 40) (by omega) (by omega)]
end Go.Proofs.Ytmfbpkjhabdcgaa.F
end
section
namespace Go.Proofs.Ytmfbpkjhabdcgaa.F
open Go.RowKit Go.Proofs.YtmfbpkjhabdcgaaW.PrintWords Go.Proofs.YtmfbpkjhabdcgaaW.PrintLast Go.Proofs.YtmfbpkjhabdcgaaW.PrintMore
set_option linter.unusedVariables false
set_option linter.unusedSimpArgs false
theorem made_call (x T : Int) (hT : 0 ≤ T) (hT' : T ≤ 60) : ∃ c : S29, okC c ∧ T ≤ c.f3 ∧ c.f3 ≤ T + 3 ∧
    ∀ (k : Nat) (x0 : List Int) (x1 x2 : Int) (i : Nat) (a : Int) (l : List S29), rd x0 i = x → i < x0.length → L28_made.j1 (k + 2) x0 x1 x2 T i true a l = L28_made.l1 k x0 x1 x2 c.f3 i false 0 a l c.f0 c.f1 c.f2 c.f3 := by
  obtain ⟨t, ht, t0, t1⟩ := mod_law x 16777216 (by omega) (by omega)
  by_cases h3 : t / 128 % 3 = 0
  · refine ⟨⟨3, t / 16 % 8, 1 + t / 512 % 3, T + t % 4⟩, ?_, by simp only; omega, by simp only; omega, fun k x0 x1 x2 i a l e hi => ?_⟩
    · unfold okC errC; simp only; rw [if_neg (by omega), if_neg (by omega), if_neg (by omega)]
    · rw [L28_made.j1, if_pos rfl, if_pos (by omega), if_pos (by omega), e, ht]
      simp only [Option.bind_some]
      rw [Int.tdiv_eq_ediv_of_nonneg t0, Int.tdiv_eq_ediv_of_nonneg t0, Int.tdiv_eq_ediv_of_nonneg t0, wrap_id (x := t / 128) (by omega) (by omega), wrap_id (x := t / 16) (by omega) (by omega), wrap_id (x := t / 512) (by omega) (by omega)]
      rw [tmod_pos (a := t / 128) (by omega), tmod_pos (a := t / 16) (by omega), tmod_pos (a := t / 512) (by omega), tmod_pos t0, if_pos h3, wrap_id (x := 1 + t / 512 % 3) (by omega) (by omega), wrap_id (x := T + t % 4) (by omega) (by omega), L28_made.j2]
  · refine ⟨⟨1 + t / 4 % 2, t / 16 % 8, 0, T + t % 4⟩, ?_, by simp only; omega, by simp only; omega, fun k x0 x1 x2 i a l e hi => ?_⟩
    · unfold okC errC; simp only; rw [if_neg (by omega), if_neg (by omega), if_neg (by omega)]
    · rw [L28_made.j1, if_pos rfl, if_pos (by omega), if_pos (by omega), e, ht]
      simp only [Option.bind_some]
      rw [Int.tdiv_eq_ediv_of_nonneg (b := 128) t0, Int.tdiv_eq_ediv_of_nonneg (b := 16) t0, Int.tdiv_eq_ediv_of_nonneg (b := 4) t0, wrap_id (x := t / 128) (by omega) (by omega), wrap_id (x := t / 16) (by omega) (by omega), wrap_id (x := t / 4) (by omega) (by omega)]
      rw [tmod_pos (a := t / 128) (by omega), tmod_pos (a := t / 16) (by omega), tmod_pos (a := t / 4) (by omega), tmod_pos t0, if_neg h3, wrap_id (x := 1 + t / 4 % 2) (by omega) (by omega), wrap_id (x := T + t % 4) (by omega) (by omega), L28_made.j2]
end Go.Proofs.Ytmfbpkjhabdcgaa.F
end
section
namespace Go.Proofs.Ytmfbpkjhabdcgaa.F
open Go.RowKit Go.Proofs.YtmfbpkjhabdcgaaW.PrintWords Go.Proofs.YtmfbpkjhabdcgaaW.PrintLast Go.Proofs.YtmfbpkjhabdcgaaW.PrintMore
set_option linter.unusedVariables false
set_option linter.unusedSimpArgs false
theorem made_roundP (x0 : List Int) (x1 x2 : Int) : ∀ (d i k : Nat) (T : Int) (l : List S29), i + d = 20 → T ≤ 3 * i → l.length ≤ i → MadeP l T → 40 * d + 10 ≤ k →
    ∃ l' T' car mode trip now cycle floor, L28_made.l0 k x0 x1 x2 T i 20 l = some (20, l', car, mode, trip, now, cycle, 0, 500, floor, 2, []) ∧ MadeP l' T' ∧ AskP car mode trip now cycle 0 500 floor 2 := by
  intro d
  induction d with
  | zero =>
    intro i k T l hi hT hl hM hk
    obtain ⟨k, rfl⟩ : ∃ j, k = j + 2 := ⟨k - 2, by omega⟩
    obtain ⟨car, mode, trip, now, cycle, floor, hA, hE⟩ := made_end x1 x2 T hM.t0 (by omega)
    refine ⟨l, T, car, mode, trip, now, cycle, floor, ?_, hM, hA⟩
    rw [L28_made.l0, decide_eq_false (show ¬ (i : Int) < 20 by omega), hE k x0 i 20 l]
    split <;> rfl
  | succ d ih =>
    intro i k T l hi hT hl hM hk
    obtain ⟨k, rfl⟩ : ∃ j, k = j + 3 := ⟨k - 3, by omega⟩
    have hT0 := hM.t0
    by_cases hlt : (i : Int) < (x0.length : Int)
    case neg =>
      obtain ⟨car, mode, trip, now, cycle, floor, hA, hE⟩ := made_end x1 x2 T hM.t0 (by omega)
      refine ⟨l, T, car, mode, trip, now, cycle, floor, ?_, hM, hA⟩
      rw [L28_made.l0, if_neg hlt, hE (k + 1) x0 i 20 l]
    case pos =>
    obtain ⟨c, hok, h3, h3', hC⟩ := made_call (rd x0 i) T hM.t0 (by omega)
    rw [L28_made.l0, if_pos hlt, decide_eq_true (show (i : Int) < 20 by omega), hC k x0 x1 x2 i 20 l rfl (by omega)]
    have hl64 : l.length ≤ 64 := by omega
    obtain ⟨k, rfl⟩ : ∃ j, k = (j + 1) + l.length := ⟨k - 1 - l.length, by omega⟩
    have hth := there_lawP x0 x1 x2 c.f3 i 20 l c hl64 l.length (k + 1) 0 false (by omega)
    have hM' : MadeP l c.f3 := ⟨hM.valid, by omega, fun x hx => by have := hM.late x hx; omega⟩
    have hlate : ∀ x ∈ l, x.f3 ≤ c.f3 := fun x hx => by have := hM.late x hx; omega
    have hbig : l.length < 4398046511104 := by omega
    have hne : ¬ (l.length : Int) = 20 := by omega
    have hself : ¬ ((l.length : Nat) : Int) < (l.length : Int) := by omega
    have hcc : 0 ≤ c.f3 := by omega
    have hlen1 : (l ++ [c]).length ≤ i + 1 := by simp; omega
    have hn1 := ih (i + 1) k c.f3 l (by omega) (by omega) (by omega) hM' (by omega)
    have hn2 := fun h => ih (i + 1) k c.f3 (l ++ [c]) (by omega) (by omega) hlen1 h (by omega)
    have hwi : wrap64 ((i : Int) + 1) = ((i + 1 : Nat) : Int) := by rw [wrap_id (by omega) (by omega)]; omega
    rw [show ((0 : Nat) : Int) = (0 : Int) from rfl] at hth
    rw [hth, List.drop_zero, Bool.false_or, L28_made.l1, if_neg hself, hwi]
    by_cases hany : l.any (fun x => sameKey x c) = true
    · rw [if_pos hany]
      exact hn1
    · rw [if_neg hany, if_pos hbig]
      refine hn2 ⟨valid_put hM.valid hok hlate hany hne, hcc, fun x hx => ?_⟩
      rcases List.mem_append.1 hx with hx | hx
      · exact hlate x hx
      · rw [List.mem_singleton] at hx; subst hx; exact Int.le_refl _
end Go.Proofs.Ytmfbpkjhabdcgaa.F
end
section
namespace Go.Proofs.Ytmfbpkjhabdcgaa.F
open Go.RowKit Go.Proofs.YtmfbpkjhabdcgaaW.PrintWords Go.Proofs.YtmfbpkjhabdcgaaW.PrintLast Go.Proofs.YtmfbpkjhabdcgaaW.PrintMore
set_option linter.unusedVariables false
set_option linter.unusedSimpArgs false
theorem madeP_law {k : Nat} (hk : 810 ≤ k) (x0 : List Int) (x1 x2 : Int) :
    ∃ l T car mode trip now cycle floor, L28_made.f k x0 x1 x2 = some (20, l, car, mode, trip, now, cycle, 0, 500, floor, 2, []) ∧ MadeP l T ∧ AskP car mode trip now cycle 0 500 floor 2 := by
  unfold L28_made.f
  exact made_roundP x0 x1 x2 20 0 k 0 [] (by omega) (by omega) (by simp) ⟨valid_nil (by omega) (by omega), by omega, fun _ h => (List.not_mem_nil h).elim⟩ (by omega)
end Go.Proofs.Ytmfbpkjhabdcgaa.F
end
section
namespace Go.Proofs.Ytmfbpkjhabdcgaa.F
open Go.RowKit Go.Proofs.YtmfbpkjhabdcgaaW.PrintWords Go.Proofs.YtmfbpkjhabdcgaaW.PrintLast Go.Proofs.YtmfbpkjhabdcgaaW.PrintMore
set_option linter.unusedVariables false
set_option linter.unusedSimpArgs false
theorem between_law {a lo hi : Int} (h0 : lo ≤ a) (h1 : a ≤ hi) : pick_between_int.f a lo hi = some true := by
  unfold pick_between_int.f
  rw [if_pos h0, decide_eq_true h1]
end Go.Proofs.Ytmfbpkjhabdcgaa.F
end
section
namespace Go.Proofs.Ytmfbpkjhabdcgaa.F
open Go.RowKit Go.Proofs.YtmfbpkjhabdcgaaW.PrintWords Go.Proofs.YtmfbpkjhabdcgaaW.PrintLast Go.Proofs.YtmfbpkjhabdcgaaW.PrintMore
set_option linter.unusedVariables false
set_option linter.unusedSimpArgs false
/-- Calls that others took: valid hall calls. -/
def Taken (l : List S29) : Prop := l.length ≤ 8 ∧ ∀ x ∈ l, okC x ∧ x.f0 ≠ 3
end Go.Proofs.Ytmfbpkjhabdcgaa.F
end
section
namespace Go.Proofs.Ytmfbpkjhabdcgaa.F
open Go.RowKit Go.Proofs.YtmfbpkjhabdcgaaW.PrintWords Go.Proofs.YtmfbpkjhabdcgaaW.PrintLast Go.Proofs.YtmfbpkjhabdcgaaW.PrintMore
set_option linter.unusedVariables false
set_option linter.unusedSimpArgs false
theorem taken_loop (l : List S29) (h : Taken l) : ∀ (d j k : Nat), j + d = l.length → d + 3 ≤ k → pick_checkTaken.l0 k l (l.length : Int) j = some 0
  | 0, j, k, hj, hk => by
    obtain ⟨k, rfl⟩ : ∃ z, k = z + 1 := ⟨k - 1, by omega⟩
    rw [pick_checkTaken.l0, if_neg (by omega)]
  | d + 1, j, k, hj, hk => by
    obtain ⟨k, rfl⟩ : ∃ z, k = z + 1 := ⟨k - 1, by omega⟩
    have hlt : j < l.length := by omega
    have h8 := h.1
    have er : rd_T29 l (j : Int) = l[j] := by simp [rd_T29, List.getD_eq_getElem?_getD, List.getElem?_eq_getElem hlt]
    obtain ⟨h1, h2⟩ := h.2 l[j] (List.getElem_mem _)
    have ih := taken_loop l h d (j + 1) k (by omega) (by omega)
    have c1 : (j : Int) < (l.length : Int) := by omega
    have c0 : (0 : Int) ≤ (j : Int) := by omega
    have hwi : wrap64 ((j : Int) + 1) = ((j + 1 : Nat) : Int) := by rw [wrap_id (by omega) (by omega)]; omega
    rw [pick_checkTaken.l0, if_pos c1, if_pos c0, if_pos c1, er, call_err (by omega), show errC l[j].f0 l[j].f1 l[j].f2 l[j].f3 = 0 from h1]
    unfold pick_hall.f
    simp only [Option.bind_some, if_true]
    rw [if_pos (by simpa using h2), hwi]
    exact ih
end Go.Proofs.Ytmfbpkjhabdcgaa.F
end
section
namespace Go.Proofs.Ytmfbpkjhabdcgaa.F
open Go.RowKit Go.Proofs.YtmfbpkjhabdcgaaW.PrintWords Go.Proofs.YtmfbpkjhabdcgaaW.PrintLast Go.Proofs.YtmfbpkjhabdcgaaW.PrintMore
set_option linter.unusedVariables false
set_option linter.unusedSimpArgs false
theorem ask_valid {k : Nat} (hk : 20 ≤ k) {car mode trip now cycle load full floor home : Int} (hc : 1 ≤ car ∧ car ≤ 8) (hm : 0 ≤ mode ∧ mode ≤ 3) (ht : 0 ≤ trip ∧ trip ≤ 15) (hn : 0 ≤ now ∧ now ≤ 100) (hy : 1 ≤ cycle ∧ cycle ≤ 40) (hl : load = 0 ∧ full = 500) (hf : 0 ≤ floor ∧ floor ≤ 7) (hh : home = 2) {l : List S29} (h : Taken l) :
    pick_Check.f k car mode trip now cycle load full floor home l = some 0 := by
  obtain ⟨k, rfl⟩ : ∃ z, k = z + 1 := ⟨k - 1, by omega⟩
  unfold pick_Check.f
  rw [between_law hc.1 hc.2, between_law hm.1 hm.2, between_law ht.1 ht.2, between_law hn.1 (by omega)]
  simp only [Option.bind_some, if_true]
  rw [pick_Check.j0, decide_eq_true (show cycle ≥ 1 by omega), if_pos rfl, between_law (a := load) (by omega) (by omega), between_law (a := full) (by omega) (by omega), between_law (a := floor) (by omega) (by omega), between_law (a := home) (by omega) (by omega)]
  simp only [Option.bind_some, if_true]
  have h8 := h.1
  unfold pick_checkTaken.f
  rw [if_neg (by omega)]
  have := taken_loop l h l.length 0 k (by omega) (by omega)
  rw [show (0 : Int) = ((0 : Nat) : Int) from rfl, this]
  rfl
end Go.Proofs.Ytmfbpkjhabdcgaa.F
end
