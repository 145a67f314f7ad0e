/- Part 1 of RingNumbers: what the functions reckon, step by step, and plain laws. No condition. -/
import Derived.Test.YtoekmdcldfmmcaaKN5x3
section
-- Written by fork.py (this session's program over the kit's print.py). Not trusted: Lean checks it.
namespace Go.Proofs.Ytoekmdcldfmmcaa.F
open Go.RowKit Go.Proofs.YtoekmdcldfmmcaaW.PrintWords Go.Proofs.YtoekmdcldfmmcaaW.PrintLast Go.Proofs.YtoekmdcldfmmcaaW.PrintMore
attribute [local go_sem] max2_int min2_int max_two min_two max_three min_three max_four min_four
set_option linter.unusedVariables false
set_option linter.unusedSimpArgs false

/-! ### L05_RingNumbers: function 6 -/
mutual
def L05_RingNumbers.j0 : Nat → Bool → List Int → Bool → Int → Int → List (S35) → Option (Bool)
  | 0, _, _, _, _, _, _ => none
  | k + 1, x5, x7, x40, x564000, x564001, x564002 => if x40 = true then (some false) else (L05_RingNumbers.l0 k x5 x7 0 x564000 x564001 x564002)
def L05_RingNumbers.l0 : Nat → Bool → List Int → Int → Int → Int → List (S35) → Option (Bool)
  | 0, _, _, _, _, _, _ => none
  | k + 1, x5, x7, x11, x564000, x564001, x564002 => if x11 < (x7.length : Int) then (if 0 ≤ x11 then (if (rd x7 x11) = (IntKind.u64.wrap (wrap64 (x11 + 1))) then (L05_RingNumbers.l0 k x5 x7 (wrap64 (x11 + 1)) x564000 x564001 x564002) else (some false)) else (none)) else (if x5 = true then (some (x564001 == (IntKind.u64.wrap (wrap64 ((x7.length : Int) + 1))))) else (some false))
end
def L05_RingNumbers.f (k : Nat) (a0 : Int) (l1 : List Int) : Option (Bool) := (L05_RingKnown.f k).bind fun t553 => ((L05_made.f k a0 l1).bind fun bt554 => ((ring_Rest.f k bt554.1 bt554.2.1 bt554.2.2.1).bind fun bt564 => (if bt554.2.2.2.2 = true then (if bt564.2 = 0 then (L05_RingNumbers.j0 k t553 bt554.2.2.2.1 ((wrap64 (bt564.1 + (bt554.2.2.1.length : Int))) != bt554.1) bt554.1 bt554.2.1 bt554.2.2.1) else (L05_RingNumbers.j0 k t553 bt554.2.2.2.1 true bt554.1 bt554.2.1 bt554.2.2.1)) else (L05_RingNumbers.j0 k t553 bt554.2.2.2.1 true bt554.1 bt554.2.1 bt554.2.2.1))))
theorem L05_RingNumbers.mono_l : ∀ k, (∀ y0 y1 y2 y3 y4 y5, LeO (L05_RingNumbers.j0 k y0 y1 y2 y3 y4 y5) (L05_RingNumbers.j0 (k + 1) y0 y1 y2 y3 y4 y5)) ∧ (∀ y0 y1 y2 y3 y4 y5, LeO (L05_RingNumbers.l0 k y0 y1 y2 y3 y4 y5) (L05_RingNumbers.l0 (k + 1) y0 y1 y2 y3 y4 y5))
  | 0 => ⟨fun _ _ _ _ _ _ r h => by simp [L05_RingNumbers.j0] at h, fun _ _ _ _ _ _ r h => by simp [L05_RingNumbers.l0] at h⟩
  | k + 1 => by
    obtain ⟨ih0, ih1⟩ := L05_RingNumbers.mono_l k
    refine ⟨?_, ?_⟩
    · intro y0 y1 y2 y3 y4 y5
      unfold L05_RingNumbers.j0
      repeat' first
      | (with_reducible exact ih0 _ _ _ _ _ _)
      | (with_reducible exact ih1 _ _ _ _ _ _)
      | (with_reducible exact L05_RingKnown.mono _)
      | (with_reducible exact L05_made.mono _ _ _)
      | (with_reducible exact ring_Rest.mono _ _ _ _)
      | (with_reducible exact LeO.refl _)
      | (with_reducible exact LeO.none _)
      | (with_reducible refine LeO.ite ?_ ?_)
      | (with_reducible refine LeO.bind ?_ (fun _ => ?_))
      | exact ih0 _ _ _ _ _ _
      | exact ih1 _ _ _ _ _ _
      | exact L05_RingKnown.mono _
      | exact L05_made.mono _ _ _
      | exact ring_Rest.mono _ _ _ _
      | exact LeO.none _
      | refine LeO.ite ?_ ?_
      | refine LeO.bind ?_ (fun _ => ?_)
    · intro y0 y1 y2 y3 y4 y5
      unfold L05_RingNumbers.l0
      repeat' first
      | (with_reducible exact ih0 _ _ _ _ _ _)
      | (with_reducible exact ih1 _ _ _ _ _ _)
      | (with_reducible exact L05_RingKnown.mono _)
      | (with_reducible exact L05_made.mono _ _ _)
      | (with_reducible exact ring_Rest.mono _ _ _ _)
      | (with_reducible exact LeO.refl _)
      | (with_reducible exact LeO.none _)
      | (with_reducible refine LeO.ite ?_ ?_)
      | (with_reducible refine LeO.bind ?_ (fun _ => ?_))
      | exact ih0 _ _ _ _ _ _
      | exact ih1 _ _ _ _ _ _
      | exact L05_RingKnown.mono _
      | exact L05_made.mono _ _ _
      | exact ring_Rest.mono _ _ _ _
      | exact LeO.none _
      | refine LeO.ite ?_ ?_
      | refine LeO.bind ?_ (fun _ => ?_)
theorem L05_RingNumbers.mono : ∀ a0 a1 k, LeO (L05_RingNumbers.f k a0 a1) (L05_RingNumbers.f (k + 1) a0 a1) := by
  intro a0 a1 k
  obtain ⟨ih0, ih1⟩ := L05_RingNumbers.mono_l k
  unfold L05_RingNumbers.f
  repeat' first
      | (with_reducible exact ih0 _ _ _ _ _ _)
      | (with_reducible exact ih1 _ _ _ _ _ _)
      | (with_reducible exact L05_RingKnown.mono _)
      | (with_reducible exact L05_made.mono _ _ _)
      | (with_reducible exact ring_Rest.mono _ _ _ _)
      | (with_reducible exact LeO.refl _)
      | (with_reducible exact LeO.none _)
      | (with_reducible refine LeO.ite ?_ ?_)
      | (with_reducible refine LeO.bind ?_ (fun _ => ?_))
      | exact ih0 _ _ _ _ _ _
      | exact ih1 _ _ _ _ _ _
      | exact L05_RingKnown.mono _
      | exact L05_made.mono _ _ _
      | exact ring_Rest.mono _ _ _ _
      | exact LeO.none _
      | refine LeO.ite ?_ ?_
      | refine LeO.bind ?_ (fun _ => ?_)
theorem L05_RingNumbers.j0_d40true (k : Nat) (x5 : Bool) (x7 : List Int) (x564000 : Int) (x564001 : Int) (x564002 : List (S35)) : L05_RingNumbers.j0 k x5 x7 true x564000 x564001 x564002 ≠ some true := by
  cases k with
  | zero => simp only [L05_RingNumbers.j0]; exact never_none
  | succ k =>
    simp only [L05_RingNumbers.j0]
    all_goals (try rw [if_pos rfl])
    all_goals (repeat (first | exact never_none | exact never_false | refine never_ite ?_ ?_ | refine never_bind (fun _ => ?_)))
set_option maxHeartbeats 8000000 in
set_option maxRecDepth 100000 in
theorem L05_RingNumbers.calls (k : Nat) (a0 : Int) (A1 : Option Addr) (c1 : Nat) (l1 : List Int) (r : Bool) (w : World) (hr1 : Kd.C (Kd.int .i64) w A1 l1.length l1) (hc1 : l1.length ≤ c1) (h : L05_RingNumbers.f k a0 l1 = some r) (ht_ : r = true := by rfl) :
    Calls Try.prog 6 #[.int .i64 a0, .slice A1 l1.length c1] w fun e w' => e = .returned (.bool r) ∧ Below w.heap.size w w' := by
  subst ht_
  have hu25 := Try.underlying25
  have HR1 := Aside0.mk hr1
  have HC1 := Aside0.mk hc1
  clear hr1 hc1
  have HB := Aside0.mk (Below.refl w.heap.size w)
  have H : ((L05_RingKnown.f k).bind fun t553 => ((L05_made.f k a0 l1).bind fun bt554 => ((ring_Rest.f k bt554.1 bt554.2.1 bt554.2.2.1).bind fun bt564 => (if bt554.2.2.2.2 = true then (if bt564.2 = 0 then (L05_RingNumbers.j0 k t553 bt554.2.2.2.1 ((wrap64 (bt564.1 + (bt554.2.2.1.length : Int))) != bt554.1) bt554.1 bt554.2.1 bt554.2.2.1) else (L05_RingNumbers.j0 k t553 bt554.2.2.2.1 true bt554.1 bt554.2.1 bt554.2.2.1)) else (L05_RingNumbers.j0 k t553 bt554.2.2.2.1 true bt554.1 bt554.2.1 bt554.2.2.1))))) = some true := h
  clear h
  replace H := Option.bind_eq_some_iff.mp H
  obtain ⟨t553, A30, H⟩ := H
  replace H : ((L05_made.f k a0 l1).bind fun bt554 => ((ring_Rest.f k bt554.1 bt554.2.1 bt554.2.2.1).bind fun bt564 => (if bt554.2.2.2.2 = true then (if bt564.2 = 0 then (L05_RingNumbers.j0 k t553 bt554.2.2.2.1 ((wrap64 (bt564.1 + (bt554.2.2.1.length : Int))) != bt554.1) bt554.1 bt554.2.1 bt554.2.2.1) else (L05_RingNumbers.j0 k t553 bt554.2.2.2.1 true bt554.1 bt554.2.1 bt554.2.2.1)) else (L05_RingNumbers.j0 k t553 bt554.2.2.2.1 true bt554.1 bt554.2.1 bt554.2.2.1)))) = some true := H
  have A3 := Aside0.mk A30
  clear A30
  replace H := Option.bind_eq_some_iff.mp H
  obtain ⟨⟨t554, t555, t556, t559, t562⟩, A40, H⟩ := H
  replace H : ((ring_Rest.f k t554 t555 t556).bind fun bt564 => (if t562 = true then (if bt564.2 = 0 then (L05_RingNumbers.j0 k t553 t559 ((wrap64 (bt564.1 + (t556.length : Int))) != t554) t554 t555 t556) else (L05_RingNumbers.j0 k t553 t559 true t554 t555 t556)) else (L05_RingNumbers.j0 k t553 t559 true t554 t555 t556))) = some true := H
  have A4 := Aside0.mk A40
  clear A40
  replace H := Option.bind_eq_some_iff.mp H
  obtain ⟨⟨t564, t565⟩, A50, H⟩ := H
  replace H : (if t562 = true then (if t565 = 0 then (L05_RingNumbers.j0 k t553 t559 ((wrap64 (t564 + (t556.length : Int))) != t554) t554 t555 t556) else (L05_RingNumbers.j0 k t553 t559 true t554 t555 t556)) else (L05_RingNumbers.j0 k t553 t559 true t554 t555 t556)) = some true := H
  have A5 := Aside0.mk A50
  clear A50
  have HC6 := Aside0.mk H
  clear H
  go_enter Try.func6, Try.ntmps6
  go_upto_region 4 with (first | ((with_reducible refine gate_callee (f := 5) rfl ?_); refine goesL_ (some 12) rfl rfl Try.func5 (by kernel_rfl) rfl #[] rfl (by (try simp only [List.map_toArray, List.map_cons, List.map_nil]); first | done | rfl | (simp only [List.length_drop, List.length_take]; rfl)) ?_; (with_reducible refine (L05_RingKnown.calls k  t553 _ A3.out (ringKnown_true A3.out)).mono ?_); rintro e w7 ⟨rfl, hb⟩; refine ⟨_, rfl, ?_⟩; have n0_ := Aside0.mk (below_step (by repeat (first | (with_reducible first | exact HB.out | apply below_alloc | apply pw_below_drewN | apply below_drew1) | exact HB.out)) hb); clear HB; have HB := n0_; clear n0_; (try clear hb); (try clear hb2); (try clear hk); (try clear hi)) | ((with_reducible refine gate_callee (f := 36) rfl ?_); refine goesL_ (some 16) rfl rfl Try.func36 (by kernel_rfl) rfl #[.int .i64 a0, .slice A1 l1.length c1] rfl (by (try simp only [List.map_toArray, List.map_cons, List.map_nil]); first | done | rfl | (simp only [List.length_drop, List.length_take]; rfl)) ?_; (with_reducible refine (L05_made.calls k a0 _ _ l1 t554 t555 t556 t559 t562 _ ?side1 ?side2 A4.out).mono ?_); (case side1 => repeat (first | exact (Kd.C_below HR1.out HB.out) | (with_reducible refine Kd.C_alloc ?_ _) | (with_reducible refine Kd.C_drewN ?_ _) | (with_reducible refine Kd.C_drew ?_))); (case side2 => exact HC1.out); rintro e w8 ⟨v557, v560, rfl, ho0, ho1, hb⟩; refine ⟨_, rfl, ?_⟩; have n0_ := Aside0.mk (Kd.R_lower ho0 (below_size (by repeat (first | (with_reducible first | exact HB.out | apply below_alloc | apply pw_below_drewN | apply below_drew1) | exact HB.out)))); have n1_ := Aside0.mk (Kd.R_lower ho1 (below_size (by repeat (first | (with_reducible first | exact HB.out | apply below_alloc | apply pw_below_drewN | apply below_drew1) | exact HB.out)))); have n2_ := Aside0.mk (below_step (by repeat (first | (with_reducible first | exact HB.out | apply below_alloc | apply pw_below_drewN | apply below_drew1) | exact HB.out)) hb); clear HB; have HO558 := n0_; have HO561 := n1_; have HB := n2_; clear n0_ n1_ n2_; (try clear hb); (try clear hb2); (try clear hk); (try clear hi); (try clear ho0); (try clear ho1)) | ((with_reducible refine gate_dst (N := 6) rfl ?_); (try (refine gate_guard (by rfl) ?_; dsimp only)); refine box_event ?hg (N := 6) ?hd (cs := #[.int .i64 0, .int .u64 0, .slice none 0 0]) (t := 25) ?hr ?_; (case hd => rfl); (case hg => rfl); (case hr => first | (go_simp; done) | (go_simp; rfl)); intro gb563 hg w9 hbox hb; have n0_ := Aside0.mk (Kd.R_below (by (with_reducible repeat (first | apply Kd.R_alloc | apply Kd.R_drewN | apply Kd.R_drew)); exact HO558.out) hb); have n1_ := Aside0.mk (Kd.R_below (by (with_reducible repeat (first | apply Kd.R_alloc | apply Kd.R_drewN | apply Kd.R_drew)); exact HO561.out) hb); have n2_ := Aside0.mk (below_step (by repeat (first | (with_reducible first | exact HB.out | apply below_alloc | apply pw_below_drewN | apply below_drew1) | exact HB.out)) hb); have n3_ := Aside0.mk (hbox); have n4_ := Aside0.mk ((by rw [hg]; exact (below_size (by repeat (first | (with_reducible first | exact HB.out | apply below_alloc | apply pw_below_drewN | apply below_drew1) | exact HB.out))) : w.heap.size ≤ gb563)); have n5_ := Aside0.mk ((by rw [hg]; exact (below_size (by repeat (first | (with_reducible first | exact HB.out | apply below_alloc | apply pw_below_drewN | apply below_drew1) | exact HB.out))) : w.heap.size ≤ gb563)); clear HO558; clear HO561; clear HB; have HO558 := n0_; have HO561 := n1_; have HB := n2_; have BK563 := n3_; have GW563 := n4_; have GE563 := n5_; clear n0_ n1_ n2_ n3_ n4_ n5_; clear hb hbox hg; have hcz10_0 : w9.cell? ⟨gb563, 0, none⟩ = some (.int .i64 0) := (blk_cell BK563.out 0).trans rfl; have hcz10_1 : w9.cell? ⟨gb563, 1, none⟩ = some (.int .u64 0) := (blk_cell BK563.out 1).trans rfl; have hcz10_2 : w9.cell? ⟨gb563, 2, none⟩ = some (.slice none 0 0) := (blk_cell BK563.out 2).trans rfl; have hfz10_0 := blk_frozen BK563.out 0; have hfz10_1 := blk_frozen BK563.out 1; have hfz10_2 := blk_frozen BK563.out 2; obtain ⟨Ao11, co11, eo11⟩ := Kd.R_slice HO558.out; subst eo11) | ((with_reducible refine gate_callee (f := 31) rfl ?_); refine goesL_ (some 22) rfl rfl Try.func31 (by kernel_rfl) rfl #[.agg #[.int .i64 t554, .int .u64 t555, .slice Ao11 t556.length co11]] rfl (by (try simp only [List.map_toArray, List.map_cons, List.map_nil]); first | done | rfl | (simp only [List.length_drop, List.length_take]; rfl)) ?_; (with_reducible refine (ring_Rest.calls k t554 t555 _ _ t556 t564 t565 _ ?side1 ?side2 A5.out).mono ?_); (case side1 => refine (Kd.R_reads' (e := 35) (base := w.heap.size) (ok := fun k_ => True) (n := t556.length) (c := co11) ?_).2.2; exact (by (with_reducible repeat (first | apply Kd.R_alloc | apply Kd.R_drewN | apply Kd.R_drew)); exact (Kd.R_mono (Kd.R_far (p := ⟨gb563, 2, none⟩) (Kd.R_far (p := ⟨gb563, 1, none⟩) (Kd.R_far (p := ⟨gb563, 0, none⟩) (Kd.R_types HO558.out BK563.out (by decide)) (fun _ hk => hk.2) (.int .i64 t554)) (fun _ hk => hk.2) (.int .u64 t555)) (fun _ hk => hk.2) (.slice Ao11 t556.length co11)) (fun _ h_ => h_.1)))); (case side2 => exact (Kd.R_reads' HO558.out).2.1); rintro e w12 ⟨rfl, hb⟩; refine ⟨_, rfl, ?_⟩; have n0_ := Aside0.mk (Kd.R_below (by (with_reducible repeat (first | apply Kd.R_alloc | apply Kd.R_drewN | apply Kd.R_drew)); exact (Kd.R_mono (Kd.R_far (p := ⟨gb563, 2, none⟩) (Kd.R_far (p := ⟨gb563, 1, none⟩) (Kd.R_far (p := ⟨gb563, 0, none⟩) (Kd.R_types HO558.out BK563.out (by decide)) (fun _ hk => hk.2) (.int .i64 t554)) (fun _ hk => hk.2) (.int .u64 t555)) (fun _ hk => hk.2) (.slice Ao11 t556.length co11)) (fun _ h_ => h_.1))) hb); have n1_ := Aside0.mk (Kd.R_below (by (with_reducible repeat (first | apply Kd.R_alloc | apply Kd.R_drewN | apply Kd.R_drew)); exact (Kd.R_mono (Kd.R_far (p := ⟨gb563, 2, none⟩) (Kd.R_far (p := ⟨gb563, 1, none⟩) (Kd.R_far (p := ⟨gb563, 0, none⟩) (Kd.R_types HO561.out BK563.out (by decide)) (fun _ hk => hk.2) (.int .i64 t554)) (fun _ hk => hk.2) (.int .u64 t555)) (fun _ hk => hk.2) (.slice Ao11 t556.length co11)) (fun _ h_ => h_.1))) hb); have n2_ := Aside0.mk (blk_below (g := gb563) (o := .cells #[.int .i64 t554, .int .u64 t555, .slice Ao11 t556.length co11] 25 (0, 0)) (by (with_reducible repeat (first | refine blk_drewN ?_ _ | refine blk_drew ?_ | refine blk_alloc ?_ _)); refine blk_put (cs := #[.int .i64 t554, .int .u64 t555, .slice none 0 0]) ?_ 2 _ rfl; (with_reducible repeat (first | refine blk_drewN ?_ _ | refine blk_drew ?_ | refine blk_alloc ?_ _)); refine blk_put (cs := #[.int .i64 t554, .int .u64 0, .slice none 0 0]) ?_ 1 _ rfl; (with_reducible repeat (first | refine blk_drewN ?_ _ | refine blk_drew ?_ | refine blk_alloc ?_ _)); refine blk_put (cs := #[.int .i64 0, .int .u64 0, .slice none 0 0]) ?_ 0 _ rfl; (with_reducible repeat (first | refine blk_drewN ?_ _ | refine blk_drew ?_ | refine blk_alloc ?_ _)); exact BK563.out) hb); have n3_ := Aside0.mk (below_step (by repeat (first | (with_reducible first | exact HB.out | apply below_alloc | apply pw_below_drewN | apply below_drew1 | refine below_set ?_ GE563.out) | exact HB.out)) hb); clear HO558; clear HO561; clear BK563; clear HB; have HO558 := n0_; have HO561 := n1_; have BK563 := n2_; have HB := n3_; clear n0_ n1_ n2_ n3_; (try clear hb); (try clear hb2); (try clear hk); (try clear hi)))
  (try simp only [Act.put, List.setIfInBounds_toArray, List.set_cons_zero, List.set_cons_succ])
  go_cut [40] (fun v40 wc => ∃ (kq : Nat) (x40_5 : Bool), v40 = .bool x40_5 ∧ Aside0 (L05_RingNumbers.j0 kq t553 t559 x40_5 t554 t555 t556 = some true) ∧ Aside0 (kq ≤ k) ∧ Aside0 (Kd.R (Kd.int .u64) 22 wc w.heap.size (fun _ => True) v560 t559) ∧ Aside0 (Kd.R k35 35 wc w.heap.size (fun _ => True) (.slice Ao11 t556.length co11) t556) ∧ Aside0 (wc.heap[gb563]? = some (.cells #[.int .i64 t554, .int .u64 t555, (.slice Ao11 t556.length co11)] 25 (0, 0))) ∧ Aside0 (Below w.heap.size w wc))
  case first =>
    have H := HC6.out
    clear HC6
    by_cases c13 : t562 = true
    rotate_left
    · replace c13 := Bool.eq_false_iff.mpr c13
      subst c13
      have H1 : (L05_RingNumbers.j0 k t553 t559 true t554 t555 t556) = some true := by rw [if_neg (show ¬ (false = true) by decide)] at H; exact H
      clear H
      have H := H1
      clear H1
      exact absurd H (by repeat (first | exact never_none | exact never_false | refine never_ite ?_ ?_ | refine never_bind (fun _ => ?_) | exact L05_RingNumbers.j0_d40true _ _ _ _ _ _))
    subst c13
    have H1 : (if t565 = 0 then (L05_RingNumbers.j0 k t553 t559 ((wrap64 (t564 + (t556.length : Int))) != t554) t554 t555 t556) else (L05_RingNumbers.j0 k t553 t559 true t554 t555 t556)) = some true := by rw [if_pos rfl] at H; exact H
    clear H
    have H := H1
    clear H1
    by_cases c14 : t565 = 0
    rotate_left
    · rw [if_neg c14] at H
      exact absurd H (by repeat (first | exact never_none | exact never_false | refine never_ite ?_ ?_ | refine never_bind (fun _ => ?_) | exact L05_RingNumbers.j0_d40true _ _ _ _ _ _))
    rw [if_pos c14] at H
    have c14b0 : (t565 == 0) = true := beq_iff_eq.mpr c14
    have c14b1 : (t565 != 0) = false := bne_eq_false_iff_eq.mpr c14
    clear c14
    (first | rw [c14b0] | (simp only [i64_w, i32_w]; rw [c14b0]) | skip)
    have H' := Aside0.mk H
    clear H
    have hcz15_0 : w12.cell? ⟨gb563, 0, none⟩ = some (.int .i64 t554) := (blk_cell BK563.out 0).trans rfl
    have hcz15_1 : w12.cell? ⟨gb563, 1, none⟩ = some (.int .u64 t555) := (blk_cell BK563.out 1).trans rfl
    have hcz15_2 : w12.cell? ⟨gb563, 2, none⟩ = some (.slice Ao11 t556.length co11) := (blk_cell BK563.out 2).trans rfl
    have hfz15_0 := blk_frozen BK563.out 0
    have hfz15_1 := blk_frozen BK563.out 1
    have hfz15_2 := blk_frozen BK563.out 2
    go_wp2
    go_meet
    case rel => exact ⟨_, (((wrap64 (t564 + (t556.length : Int))) != t554)), (by first | rfl | (simp; done) | (simp [*]; done)), H', ⟨by first | omega | exact Nat.le_refl _⟩, ⟨by (with_reducible repeat (first | apply Kd.R_alloc | apply Kd.R_drewN | apply Kd.R_drew)); exact HO561.out⟩, ⟨by (with_reducible repeat (first | apply Kd.R_alloc | apply Kd.R_drewN | apply Kd.R_drew)); exact HO558.out⟩, ⟨by (with_reducible repeat (first | refine blk_drewN ?_ _ | refine blk_drew ?_ | refine blk_alloc ?_ _)); exact BK563.out⟩, ⟨by repeat (first | (with_reducible first | exact HB.out | apply below_alloc | apply pw_below_drewN | apply below_drew1 | refine below_set ?_ GE563.out) | exact HB.out)⟩⟩
  case rest =>
    clear HC6
    try clear c1
    try clear p2
    try clear c3
    try clear c5
    try clear c6
    try clear p6
    try clear c13
    try clear c14
    try clear c14b0
    try clear c14b1
    try clear hcz10_0
    try clear hcz10_1
    try clear hcz10_2
    try clear hcz15_0
    try clear hcz15_1
    try clear hcz15_2
    try clear hfz10_0
    try clear hfz10_1
    try clear hfz10_2
    try clear hfz15_0
    try clear hfz15_1
    try clear hfz15_2
    obtain ⟨kq, x40_5, rfl, HA, HJ5, HO_7, HO_564002, BK563, HB⟩ := hcut
    cases kq with
    | zero => exact absurd HA.out (by simp [L05_RingNumbers.j0])
    | succ kj5 =>
      have H := HA.out
      clear HA
      simp only [L05_RingNumbers.j0] at H
      by_cases c16 : x40_5 = true
      · subst c16
        have H1 : (some false) = some true := by rw [if_pos rfl] at H; exact H
        clear H
        have H := H1
        clear H1
        exact absurd H (by repeat (first | exact never_none | exact never_false | refine never_ite ?_ ?_ | refine never_bind (fun _ => ?_) | exact L05_RingNumbers.j0_d40true _ _ _ _ _ _))
      replace c16 := Bool.eq_false_iff.mpr c16
      subst c16
      have H1 : (L05_RingNumbers.l0 kj5 t553 t559 0 t554 t555 t556) = some true := by rw [if_neg (show ¬ (false = true) by decide)] at H; exact H
      clear H
      have H := H1
      clear H1
      have H' := Aside0.mk H
      clear H
      go_wp2
      go_loopg [11] kj5 (fun kq v11 w' => ∃ (x11_2 : Int), v11 = .int .i64 x11_2 ∧ Aside0 (L05_RingNumbers.l0 kq t553 t559 x11_2 t554 t555 t556 = some true) ∧ Aside0 (kq ≤ kj5) ∧ Aside0 (Kd.R (Kd.int .u64) 22 w' w.heap.size (fun _ => True) v560 t559) ∧ Aside0 (Kd.R k35 35 w' w.heap.size (fun _ => True) (.slice Ao11 t556.length co11) t556) ∧ Aside0 (w'.heap[gb563]? = some (.cells #[.int .i64 t554, .int .u64 t555, (.slice Ao11 t556.length co11)] 25 (0, 0))) ∧ Aside0 (Below w.heap.size w w'))
      case atStart => exact ⟨(0), (by first | rfl | (simp; done) | (simp [*]; done)), H', ⟨Nat.le_refl _⟩, ⟨by (with_reducible repeat (first | apply Kd.R_alloc | apply Kd.R_drewN | apply Kd.R_drew)); exact HO_7.out⟩, ⟨by (with_reducible repeat (first | apply Kd.R_alloc | apply Kd.R_drewN | apply Kd.R_drew)); exact HO_564002.out⟩, ⟨by (with_reducible repeat (first | refine blk_drewN ?_ _ | refine blk_drew ?_ | refine blk_alloc ?_ _)); exact BK563.out⟩, ⟨by repeat (first | (with_reducible first | exact HB.out | apply below_alloc | apply pw_below_drewN | apply below_drew1 | refine below_set ?_ GE563.out) | exact HB.out)⟩⟩
      case round =>
        clear H'
        try clear c1
        try clear p2
        try clear c3
        try clear c5
        try clear c6
        try clear p6
        try clear c13
        try clear c14
        try clear c14b0
        try clear c14b1
        try clear c16
        try clear hcz10_0
        try clear hcz10_1
        try clear hcz10_2
        try clear hcz15_0
        try clear hcz15_1
        try clear hcz15_2
        try clear hfz10_0
        try clear hfz10_1
        try clear hfz10_2
        try clear hfz15_0
        try clear hfz15_1
        try clear hfz15_2
        try clear p2
        try clear p6
        obtain ⟨x11_2, rfl, HA, HK2, HO_7, HO_564002, BK563, HB⟩ := hrel
        cases gk with
        | zero => exact absurd HA.out (by simp [L05_RingNumbers.l0])
        | succ k2 =>
          have H := HA.out
          clear HA
          simp only [L05_RingNumbers.l0] at H
          by_cases c17 : x11_2 < (t559.length : Int)
          · rw [if_pos c17] at H
            have c17b0 : decide (x11_2 < (t559.length : Int)) = true := decide_eq_true c17
            clear c17
            by_cases c18 : 0 ≤ x11_2
            rotate_left
            · rw [if_neg c18] at H
              exact absurd H (by repeat (first | exact never_none | exact never_false | refine never_ite ?_ ?_ | refine never_bind (fun _ => ?_) | exact L05_RingNumbers.j0_d40true _ _ _ _ _ _))
            rw [if_pos c18] at H
            have c18b0 : decide (0 ≤ x11_2) = true := decide_eq_true c18
            clear c18
            by_cases c19 : (rd t559 x11_2) = (IntKind.u64.wrap (wrap64 (x11_2 + 1)))
            rotate_left
            · rw [if_neg c19] at H
              exact absurd H (by repeat (first | exact never_none | exact never_false | refine never_ite ?_ ?_ | refine never_bind (fun _ => ?_) | exact L05_RingNumbers.j0_d40true _ _ _ _ _ _))
            rw [if_pos c19] at H
            have c19b0 : ((rd t559 x11_2) == (IntKind.u64.wrap (wrap64 (x11_2 + 1)))) = true := beq_iff_eq.mpr c19
            have c19b1 : ((rd t559 x11_2) != (IntKind.u64.wrap (wrap64 (x11_2 + 1)))) = false := bne_eq_false_iff_eq.mpr c19
            clear c19
            have H' := Aside0.mk H
            clear H
            obtain ⟨Ao20, co20, eo20⟩ := Kd.R_slice HO_7.out
            subst eo20
            have p566 : 0 ≤ (x11_2 : Int) := of_decide_eq_true (by first | (with_reducible assumption) | assumption)
            have q566 : x11_2 < (t559.length : Int) := of_decide_eq_true (by first | (with_reducible assumption) | assumption)
            obtain ⟨ad566, e566, hx566_0⟩ := Kd.at_int (Kd.R_reads' HO_7.out).2.2 x11_2 p566 q566
            cases e566
            replace p566 := eq_true p566
            replace q566 := eq_true q566
            go_wp2
            go_roundg k2
            case measure => have := HJ5.out; have := HK2.out; omega
            case rel => exact ⟨(wrap64 (x11_2 + 1)), (by first | rfl | (simp; done) | (simp [*]; done)), H', ⟨by have := HJ5.out; have := HK2.out; omega⟩, ⟨by (with_reducible repeat (first | apply Kd.R_alloc | apply Kd.R_drewN | apply Kd.R_drew)); exact HO_7.out⟩, ⟨by (with_reducible repeat (first | apply Kd.R_alloc | apply Kd.R_drewN | apply Kd.R_drew)); exact HO_564002.out⟩, ⟨by (with_reducible repeat (first | refine blk_drewN ?_ _ | refine blk_drew ?_ | refine blk_alloc ?_ _)); exact BK563.out⟩, ⟨by repeat (first | (with_reducible first | exact HB.out | apply below_alloc | apply pw_below_drewN | apply below_drew1 | refine below_set ?_ GE563.out) | exact HB.out)⟩⟩
          · rw [if_neg c17] at H
            have c17b0 : decide (x11_2 < (t559.length : Int)) = false := decide_eq_false c17
            clear c17
            by_cases c21 : t553 = true
            rotate_left
            · replace c21 := Bool.eq_false_iff.mpr c21
              subst c21
              have H1 : (some false) = some true := by rw [if_neg (show ¬ (false = true) by decide)] at H; exact H
              clear H
              have H := H1
              clear H1
              exact absurd H (by repeat (first | exact never_none | exact never_false | refine never_ite ?_ ?_ | refine never_bind (fun _ => ?_) | exact L05_RingNumbers.j0_d40true _ _ _ _ _ _))
            subst c21
            have H1 : (some (t555 == (IntKind.u64.wrap (wrap64 ((t559.length : Int) + 1))))) = some true := by rw [if_pos rfl] at H; exact H
            clear H
            have H := H1
            clear H1
            have Hret_ := Option.some.inj H
            clear H
            (try simp only [Bool.and_eq_true] at Hret_)
            obtain ⟨Ao22, co22, eo22⟩ := Kd.R_slice HO_7.out
            subst eo22
            have hcz23_0 : wr.cell? ⟨gb563, 0, none⟩ = some (.int .i64 t554) := (blk_cell BK563.out 0).trans rfl
            have hcz23_1 : wr.cell? ⟨gb563, 1, none⟩ = some (.int .u64 t555) := (blk_cell BK563.out 1).trans rfl
            have hcz23_2 : wr.cell? ⟨gb563, 2, none⟩ = some (.slice Ao11 t556.length co11) := (blk_cell BK563.out 2).trans rfl
            have hfz23_0 := blk_frozen BK563.out 0
            have hfz23_1 := blk_frozen BK563.out 1
            have hfz23_2 := blk_frozen BK563.out 2
            go_wp2
            all_goals go_ret
            all_goals exact ⟨by first | rfl | (simp [errW_none, errW_some] <;> rfl) | (simp [*, errW_none, errW_some] <;> rfl), by repeat (first | (with_reducible first | exact HB.out | apply below_alloc | apply pw_below_drewN | apply below_drew1 | refine below_set ?_ GE563.out) | exact HB.out)⟩

/-- THE ONE PURE STATEMENT of L05_RingNumbers: yours. -/
def L05_RingNumbers.Pure : Prop := ∀ (a0 : Int) (l1 : List Int), (Lit.int .i64 a0).wf = true → l1.length ≤ maxLen → l1.length * 8 ≤ 140737488351232 → (∀ x ∈ l1, (Lit.int .i64 x).wf = true) → ∃ k, L05_RingNumbers.f k a0 l1 = some true
theorem L05_RingNumbers.walk (P : L05_RingNumbers.Pure) (a0 : Int) (a1 : Option Addr) (len1 cap1 : Nat) (z1 : List Int) (w : World) (w0 : (Lit.int .i64 a0).wf = true) (w1 : (a1 = none ∧ len1 = 0 ∧ cap1 = 0 ∧ z1 = []) ∨ ∃ x, a1 = some x ∧ len1 ≤ cap1 ∧ cap1 ≤ maxLen ∧ z1.length = cap1 ∧ (∀ i, i < z1.length → w.cell? (x.add i) = some (.int .i64 (z1.getD i 0))) ∧ ∀ n ∈ z1, (Lit.int .i64 n).wf = true) (y1 : len1 * 8 ≤ 140737488351232) :
    Calls Try.prog 6 #[.int .i64 a0, .slice a1 len1 cap1] w fun e w' => e = .returned (.bool true) ∧ Below w.heap.size w w' := by
  obtain ⟨l1, rfl, hr1, hm1, hw1, hc1⟩ := ReadsInt.ofRowC w1
  obtain ⟨k, h⟩ := P a0 l1 w0 hm1 y1 hw1
  refine (L05_RingNumbers.calls k a0 _ _ l1 true w (Kd.C_of_reads (d := (0 : Int)) (h1 := fun _ => rfl) hr1) hc1 h).mono ?_
  rintro e w' ⟨rfl, hd⟩
  exact ⟨rfl, hd⟩

end Go.Proofs.Ytoekmdcldfmmcaa.F
end
section
namespace Go.Proofs.Ytoekmdcldfmmcaa.Pure
open Go.RowKit Go.Proofs.Ytoekmdcldfmmcaa.F Go.Proofs.YtoekmdcldfmmcaaW.PrintWords Go.Proofs.YtoekmdcldfmmcaaW.PrintLast
set_option linter.unusedVariables false
set_option linter.unusedSimpArgs false
theorem rdi {l : List Int} {i : Nat} (h : i < l.length) : rd l (i : Int) = l[i] := by simp [rd, rdOf, List.getD_eq_getElem?_getD, List.getElem?_eq_getElem h]
end Go.Proofs.Ytoekmdcldfmmcaa.Pure
end
section
namespace Go.Proofs.Ytoekmdcldfmmcaa.Pure
open Go.RowKit Go.Proofs.Ytoekmdcldfmmcaa.F Go.Proofs.YtoekmdcldfmmcaaW.PrintWords Go.Proofs.YtoekmdcldfmmcaaW.PrintLast
set_option linter.unusedVariables false
set_option linter.unusedSimpArgs false
def restS (a0 a1 : Int) (l : List S35) : Int × Int := if (ckS a0 a1 l).1 = 0 then (wrap64 (a0 - (l.length : Int)), 0) else (0, (ckS a0 a1 l).1)
end Go.Proofs.Ytoekmdcldfmmcaa.Pure
end
section
namespace Go.Proofs.Ytoekmdcldfmmcaa.Pure
open Go.RowKit Go.Proofs.Ytoekmdcldfmmcaa.F Go.Proofs.YtoekmdcldfmmcaaW.PrintWords Go.Proofs.YtoekmdcldfmmcaaW.PrintLast
set_option linter.unusedVariables false
set_option linter.unusedSimpArgs false
theorem rest_ (k : Nat) (hk : 100 ≤ k) (a0 a1 : Int) (l : List S35) : ring_Rest.f k a0 a1 l = some (restS a0 a1 l) := by
  unfold ring_Rest.f restS
  rw [chk k hk]
  simp only [Option.bind_some]
  split <;> rfl
end Go.Proofs.Ytoekmdcldfmmcaa.Pure
end
section
namespace Go.Proofs.Ytoekmdcldfmmcaa.Pure
open Go.RowKit Go.Proofs.Ytoekmdcldfmmcaa.F Go.Proofs.YtoekmdcldfmmcaaW.PrintWords Go.Proofs.YtoekmdcldfmmcaaW.PrintLast
set_option linter.unusedVariables false
set_option linter.unusedSimpArgs false
theorem u64_small {x : Int} (h0 : 0 ≤ x) (h1 : x ≤ 1000000) : IntKind.u64.wrap x = x := by
  show x.emod (2 ^ 64) = x
  exact Int.emod_eq_of_lt h0 (by omega)
end Go.Proofs.Ytoekmdcldfmmcaa.Pure
end
section
namespace Go.Proofs.Ytoekmdcldfmmcaa.Pure
open Go.RowKit Go.Proofs.Ytoekmdcldfmmcaa.F Go.Proofs.YtoekmdcldfmmcaaW.PrintWords Go.Proofs.YtoekmdcldfmmcaaW.PrintLast
set_option linter.unusedVariables false
set_option linter.unusedSimpArgs false
theorem rd_nums {n i : Nat} (h : i < n) : rd (nums1 n) (i : Int) = ((i + 1 : Nat) : Int) := by
  rw [rdi (by rw [nums1_len]; exact h)]
  simp [nums1]
end Go.Proofs.Ytoekmdcldfmmcaa.Pure
end
section
namespace Go.Proofs.Ytoekmdcldfmmcaa.Pure
open Go.RowKit Go.Proofs.Ytoekmdcldfmmcaa.F Go.Proofs.YtoekmdcldfmmcaaW.PrintWords Go.Proofs.YtoekmdcldfmmcaaW.PrintLast
set_option linter.unusedVariables false
set_option linter.unusedSimpArgs false
theorem numbersl (n : Nat) (hn : n ≤ 60) (b0 : Int) (l : List S35) : ∀ (m k i : Nat), m = n - i → i ≤ n → m + 1 ≤ k → L05_RingNumbers.l0 k true (nums1 n) (i : Int) b0 ((n + 1 : Nat) : Int) l = some true := by
  intro m
  induction m with
  | zero =>
    intro k i hm hi hk
    obtain ⟨k, rfl⟩ : ∃ k', k = k' + 1 := ⟨k - 1, by omega⟩
    obtain rfl : i = n := by omega
    simp only [L05_RingNumbers.l0]
    rw [nums1_len, if_neg (by omega), if_pos trivial, w_next (by omega), u64_small (by omega) (by omega), beq_self_eq_true]
  | succ m ih =>
    intro k i hm hi hk
    obtain ⟨k, rfl⟩ : ∃ k', k = k' + 1 := ⟨k - 1, by omega⟩
    simp only [L05_RingNumbers.l0]
    rw [nums1_len, if_pos (by omega), if_pos (by omega), rd_nums (by omega), w_next (by omega), u64_small (by omega) (by omega), if_pos rfl]
    exact ih k (i + 1) (by omega) (by omega) (by omega)
end Go.Proofs.Ytoekmdcldfmmcaa.Pure
end
section
namespace Go.Proofs.Ytoekmdcldfmmcaa.Pure
open Go.RowKit Go.Proofs.Ytoekmdcldfmmcaa.F Go.Proofs.YtoekmdcldfmmcaaW.PrintWords Go.Proofs.YtoekmdcldfmmcaaW.PrintLast
set_option linter.unusedVariables false
set_option linter.unusedSimpArgs false
theorem RingNumbers : L05_RingNumbers.Pure := by
  intro a0 l1 h0 h1 h2 h3
  obtain ⟨k, hk⟩ : ∃ k, 500 ≤ k := ⟨500, Nat.le_refl _⟩
  refine ⟨k, ?_⟩
  have hkn : L05_RingKnown.f k = some true := F.le_fuel L05_RingKnown.mono (by omega) ringKnown_300
  obtain ⟨size, b0, b1, l, g, n, hm, hI, hn⟩ := made a0 l1 k (by omega)
  have hv := hI.2.1
  unfold L05_RingNumbers.f
  rw [hkn, hm]
  simp only [Option.bind_some]
  rw [rest_ k (by omega)]
  simp only [Option.bind_some]
  have hr : restS b0 b1 l = (wrap64 (b0 - (l.length : Int)), 0) := by unfold restS; rw [ckS_valid hv]; rfl
  have hsum : wrap64 (wrap64 (b0 - (l.length : Int)) + (l.length : Int)) = b0 := by
    have := hv.1; have := hv.2.1; have := hv.2.2.2.2.1
    unfold wrap64
    omega
  rw [hr, if_pos trivial]
  dsimp only
  rw [if_pos (show (0 : Int) = 0 from rfl)]
  rw [hsum, bne_self_eq_false]
  obtain ⟨k, rfl⟩ : ∃ k', k = k' + 1 := ⟨k - 1, by omega⟩
  simp only [L05_RingNumbers.j0]
  rw [if_neg (by decide), hI.2.2.1, hI.2.2.2.1]
  exact numbersl n hn b0 l n k 0 rfl (Nat.zero_le _) (by omega)
end Go.Proofs.Ytoekmdcldfmmcaa.Pure
end
section
/- The statement RingNumbers holds: the law's function answers true at every input, and the input reads as it did. No condition. (Written by fork.py over the kit's print.) -/
namespace Go.Proofs.Ytoekmdcldfmmcaa.ringNumbers
open Go.ChangeShapes Go.WideShapes Go.ChangeAt Go.RowKit
open Go.ChangeMaps (open_string shut_string)
set_option linter.unusedVariables false
theorem own : ownKnob Try.prog.godebug = none := by kernel_rfl
theorem laidOut : laidOutB Try.prog = true := by kernel_rfl
def IsRow (k : IntKind) (w : World) (a : Option Addr) (len cap : Nat) (zs : List Int) : Prop :=
  (a = none ∧ len = 0 ∧ cap = 0 ∧ zs = []) ∨
  ∃ x, a = some x ∧ len ≤ cap ∧ cap ≤ maxLen ∧ zs.length = cap ∧ (∀ i, i < zs.length → w.cell? (x.add i) = some (.int k (zs.getD i 0))) ∧ ∀ n ∈ zs, (Lit.int k n).wf = true
set_option maxRecDepth 100000 in
theorem lifted (os : Os) (started : os.Started) (H : Type) (enc : TypeId × Value → H) :
    ReturnsInHanded {} Try.checked os 6 .any (Rows.ringNumbersSpec.pre6 enc Try.prog Try.f6 Rows.ringNumbersRow.domain false) (Rows.ringNumbersSpec.post enc Try.prog Try.f6 false true false false) := by
  refine returnsInHanded_of_change_sized (C := Try.checked) own started (by kernel_rfl) Try.func6
    (ChangeSpec.witness6 (enc := enc) (C := Try.checked) false ⟨#[], #[.int .i64 0, .slice none 0 0], []⟩ 8 (by kernel_rfl) (by kernel_rfl) (by kernel_rfl) (by kernel_rfl)) ?_
  intro W base args ds gs before hval0 hW hcnd hsz0 _
  have hsz : (DataW.weightsEach Try.prog (Try.f6.params.toList ++ Rows.ringNumbersSpec.plain.varTypes Try.prog) (ds ++ gs)).all (· ≤ reachBytes) = true := hsz0
  have hval : ∀ (j : Nat) t v, Try.f6.params[j]? = some t → args[j]? = some v → Value.okWide Try.prog W .any base t v := hval0
  have hW' := hW
  obtain ⟨p, q, hA0, hV, rfl, hfz, hnd⟩ := hW
  have hA : DataW.TrodAll enc Try.prog W 0 (fun _ => true) true Try.f6.params.toList args.toList ds p := hA0
  rw [Try.params6] at hA hval hsz
  obtain ⟨v0, vs0, d0, ds0, p0, q0, hargs, rfl, rfl, h0, r0⟩ := trodAll_cons hA
  obtain ⟨v1, vs1, d1, ds1, p1, q1, rfl, rfl, rfl, h1, r1⟩ := trodAll_cons r0
  obtain ⟨rfl, rfl, rfl⟩ := trodAll_nil r1
  obtain rfl : args = #[v0, v1] := by cases args; simp_all
  obtain ⟨rfl, rfl⟩ := trodVars_none hV
  obtain ⟨a0, rfl, rfl, rfl, w0⟩ := open_int Try.underlying3 (hval 0 3 v0 rfl rfl) h0
  obtain ⟨a1, len1, cap1, rfl⟩ := okWide_slice Try.underlying26 (hval 1 26 v1 rfl rfl)
  have k1 := h1
  have lt1 : ∀ x ∈ p1, x.block < W.heap.size := by obtain ⟨m, hm⟩ := k1; exact DataW.trod_lt m _ _ _ hm
  obtain ⟨z1, w1⟩ : ∃ zs, IsRow .i64 W a1 len1 cap1 zs := by
    obtain ⟨fuel, hf⟩ := h1
    rcases open_ints Try.underlying26 Try.underlying3 (by kernel_rfl) hf with ⟨hcs, _⟩ | ⟨x, l, c, zs, hcs, _, hl, hm, hz, _, hcell, hwz⟩
    · simp [Value.cells] at hcs
      obtain ⟨rfl, rfl, rfl⟩ := hcs
      exact ⟨[], .inl ⟨rfl, rfl, rfl, rfl⟩⟩
    · simp [Value.cells] at hcs
      obtain ⟨rfl, rfl, rfl⟩ := hcs
      exact ⟨zs, .inr ⟨_, rfl, hl, hm, by simpa using hz, hcell, hwz⟩⟩
  have y1 : len1 * 8 ≤ 140737488351232 := Go.Proofs.YtoekmdcldfmmcaaW.PrintWords.sized_ints hsz (j := 1) (t := 26) rfl rfl Try.underlying26 Try.underlying3 (by kernel_rfl) (by kernel_rfl) h1
  clear hA0 hval0 hsz0 hsz
  refine (F.L05_RingNumbers.walk Pure.RingNumbers a0 a1 len1 cap1 z1 W w0 w1 y1).mono fun e W' ⟨he, bel⟩ => ?_
  subst he
  exact ⟨_, rfl, _, _, _, [], _, [], hW', trodAll_mk1 (shut_bool Try.underlying4 _), (trodAll_cons_mk (shut_int Try.underlying3 w0) (trodAll_cons_mk (Below.trod laidOut (by kernel_rfl) (of_decide_eq_true (by kernel_rfl)) k1 bel lt1) trodAll_mk0)), rfl, bel.frame _, fun h => by cases h⟩
theorem over : Rows.ringNumbersRow.holds Try.pinned (OpenSpec.ofChange Rows.ringNumbersSpec) :=
  OpenClaim.holds_of_wide 6 Try.f6 rfl rfl rfl rfl rfl rfl rfl ⟨rfl, rfl, rfl, rfl, rfl⟩ rfl rfl rfl rfl rfl (by kernel_rfl) Try.func6 (by show joinedFacts Try.prog 6 Try.f6 Rows.ringNumbersSpec Rows.ringNumbersRow = true; unfold joinedFacts; rw [may_enter, lifts_not, make_cut]; kernel_rfl)
    (of_decide_eq_true (by kernel_rfl)) (by unfold Func.isWrapper; first | (rw [if_pos (by decide +kernel)]; kernel_rfl) | (rw [if_neg (by decide +kernel)]; exact ⟨rfl, rfl⟩))
    (fun os started H enc _ => lifted os started H enc)
theorem proved : Rows.RingNumbersSaid := over
#print axioms proved
end Go.Proofs.Ytoekmdcldfmmcaa.ringNumbers
namespace Go.Proofs.Ytoekmdcldfmmcaa
/-- The row, under a short name, for the claim. -/
theorem ringNumbers_holds : Rows.RingNumbersSaid := ringNumbers.proved
end Go.Proofs.Ytoekmdcldfmmcaa
end
