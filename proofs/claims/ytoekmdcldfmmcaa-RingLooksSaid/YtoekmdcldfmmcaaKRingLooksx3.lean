/- Part 3 of RingLooks: what the functions reckon, step by step, and plain laws. No condition. -/
import Derived.Test.YtoekmdcldfmmcaaKRingLooksx2
section
-- Written by fork.py (this session's program over the kit's print.py). Not trusted: Lean checks it.
namespace Go.Proofs.Ytoekmdcldfmmcaa.F
open Go.RowKit Go.Proofs.YtoekmdcldfmmcaaW.PrintWords Go.Proofs.YtoekmdcldfmmcaaW.PrintLast Go.Proofs.YtoekmdcldfmmcaaW.PrintMore
attribute [local go_sem] max2_int min2_int max_two min_two max_three min_three max_four min_four
set_option linter.unusedVariables false
set_option linter.unusedSimpArgs false

attribute [local go_sem high] eqA35
/-! ### L05_RingLooks: function 4 -/
mutual
def L05_RingLooks.j0 : Nat → Int → Int → Bool → Int → Int → List (S35) → Int → Int → List (S35) → Option (Bool)
  | 0, _, _, _, _, _, _, _, _, _ => none
  | k + 1, x1, x2, x47, x396000, x396001, x396002, x403000, x403001, x403002 => if x47 = true then (some false) else ((ring_Check.f k x403000 x403001 x403002).bind fun bt418 => ((R05_Check.f k x396000 x396001 x396002).bind fun bt420 => (if bt418.1 = bt420.1 then (L05_RingLooks.j1 k x1 x2 (bt418.2 != bt420.2) x396000 x396001 x396002 x403000 x403001 x403002) else (L05_RingLooks.j1 k x1 x2 true x396000 x396001 x396002 x403000 x403001 x403002))))
def L05_RingLooks.j1 : Nat → Int → Int → Bool → Int → Int → List (S35) → Int → Int → List (S35) → Option (Bool)
  | 0, _, _, _, _, _, _, _, _, _ => none
  | k + 1, x1, x2, x65, x396000, x396001, x396002, x403000, x403001, x403002 => if x65 = true then (some false) else ((ring_First.f x403000 x403001 x403002 x1).bind fun bt422 => ((R05_First.f k x396000 x396001 x396002 x1).bind fun bt426 => (if (!(bt422.1 == bt426.1) || (!(bt422.2.1 == bt426.2.1))) = true then (L05_RingLooks.j2 k x2 true x396000 x396001 x396002 x403000 x403001 x403002) else (L05_RingLooks.j2 k x2 (bt422.2.2 != bt426.2.2) x396000 x396001 x396002 x403000 x403001 x403002))))
def L05_RingLooks.j2 : Nat → Int → Bool → Int → Int → List (S35) → Int → Int → List (S35) → Option (Bool)
  | 0, _, _, _, _, _, _, _, _ => none
  | k + 1, x2, x85, x396000, x396001, x396002, x403000, x403001, x403002 => if x85 = true then (some false) else ((ring_Find.f x403000 x403001 x403002 x2).bind fun bt430 => ((R05_Find.f k x396000 x396001 x396002 x2).bind fun bt432 => (if bt430.1 = bt432.1 then (L05_RingLooks.j3 k x2 (bt430.2 != bt432.2) x396000 x396001 x396002 x403000 x403001 x403002) else (L05_RingLooks.j3 k x2 true x396000 x396001 x396002 x403000 x403001 x403002))))
def L05_RingLooks.j3 : Nat → Int → Bool → Int → Int → List (S35) → Int → Int → List (S35) → Option (Bool)
  | 0, _, _, _, _, _, _, _, _ => none
  | k + 1, x2, x105, x396000, x396001, x396002, x403000, x403001, x403002 => if x105 = true then (some false) else ((ring_Age.f x403000 x403001 x403002 x2).bind fun bt434 => ((R05_Age.f k x396000 x396001 x396002 x2).bind fun bt436 => ((ring_Rest.f k x403000 x403001 x403002).bind fun bt438 => ((R05_Rest.f k x396000 x396001 x396002).bind fun bt440 => (if bt434.1 = bt436.1 then (if bt434.2 = bt436.2 then (if bt438.1 = bt440.1 then (if bt438.2 = bt440.2 then ((K_SameRing.f k x403000 x403001 x403002 x396000 x396001 x396002).bind fun t442 => (if t442 = true then ((L05_awake.f k).bind fun t443 => (some t443)) else (some false))) else (some false)) else (some false)) else (some false)) else (some false))))))
end
def L05_RingLooks.f (k : Nat) (a0_0 : Int) (a0_1 : Int) (l0_2 : List (S35)) (a1 : Int) (a2 : Int) : Option (Bool) := if (l0_2.length : Int) > 40 then ((L05_awake.f k).bind fun t396 => (some t396)) else ((K_OwnRing.f a0_0 a0_1 l0_2).bind fun bt397 => ((ring_New.f a1).bind fun bt403 => ((R05_New.f a1).bind fun bt410 => ((K_SameRing.f k bt403.1 bt403.2.1 bt403.2.2.1 bt410.1 bt410.2.1 bt410.2.2.1).bind fun t417 => (if t417 = true then (L05_RingLooks.j0 k a1 a2 (bt403.2.2.2 != bt410.2.2.2) a0_0 a0_1 l0_2 bt397.1 bt397.2.1 bt397.2.2) else (L05_RingLooks.j0 k a1 a2 true a0_0 a0_1 l0_2 bt397.1 bt397.2.1 bt397.2.2))))))
theorem L05_RingLooks.mono_l : ∀ k, (∀ y0 y1 y2 y3 y4 y5 y6 y7 y8, LeO (L05_RingLooks.j0 k y0 y1 y2 y3 y4 y5 y6 y7 y8) (L05_RingLooks.j0 (k + 1) y0 y1 y2 y3 y4 y5 y6 y7 y8)) ∧ (∀ y0 y1 y2 y3 y4 y5 y6 y7 y8, LeO (L05_RingLooks.j1 k y0 y1 y2 y3 y4 y5 y6 y7 y8) (L05_RingLooks.j1 (k + 1) y0 y1 y2 y3 y4 y5 y6 y7 y8)) ∧ (∀ y0 y1 y2 y3 y4 y5 y6 y7, LeO (L05_RingLooks.j2 k y0 y1 y2 y3 y4 y5 y6 y7) (L05_RingLooks.j2 (k + 1) y0 y1 y2 y3 y4 y5 y6 y7)) ∧ (∀ y0 y1 y2 y3 y4 y5 y6 y7, LeO (L05_RingLooks.j3 k y0 y1 y2 y3 y4 y5 y6 y7) (L05_RingLooks.j3 (k + 1) y0 y1 y2 y3 y4 y5 y6 y7))
  | 0 => ⟨fun _ _ _ _ _ _ _ _ _ r h => by simp [L05_RingLooks.j0] at h, fun _ _ _ _ _ _ _ _ _ r h => by simp [L05_RingLooks.j1] at h, fun _ _ _ _ _ _ _ _ r h => by simp [L05_RingLooks.j2] at h, fun _ _ _ _ _ _ _ _ r h => by simp [L05_RingLooks.j3] at h⟩
  | k + 1 => by
    obtain ⟨ih0, ih1, ih2, ih3⟩ := L05_RingLooks.mono_l k
    refine ⟨?_, ?_, ?_, ?_⟩
    · intro y0 y1 y2 y3 y4 y5 y6 y7 y8
      unfold L05_RingLooks.j0
      repeat' first
      | (with_reducible exact ih0 _ _ _ _ _ _ _ _ _)
      | (with_reducible exact ih1 _ _ _ _ _ _ _ _ _)
      | (with_reducible exact ih2 _ _ _ _ _ _ _ _)
      | (with_reducible exact ih3 _ _ _ _ _ _ _ _)
      | (with_reducible exact K_SameRing.mono _ _ _ _ _ _ _)
      | (with_reducible exact L05_awake.mono _)
      | (with_reducible exact R05_Age.mono _ _ _ _ _)
      | (with_reducible exact R05_Check.mono _ _ _ _)
      | (with_reducible exact R05_Find.mono _ _ _ _ _)
      | (with_reducible exact R05_First.mono _ _ _ _ _)
      | (with_reducible exact R05_Rest.mono _ _ _ _)
      | (with_reducible exact ring_Check.mono _ _ _ _)
      | (with_reducible exact ring_Rest.mono _ _ _ _)
      | (with_reducible exact LeO.refl _)
      | (with_reducible exact LeO.none _)
      | (with_reducible refine LeO.ite ?_ ?_)
      | (with_reducible refine LeO.bind ?_ (fun _ => ?_))
      | exact ih0 _ _ _ _ _ _ _ _ _
      | exact ih1 _ _ _ _ _ _ _ _ _
      | exact ih2 _ _ _ _ _ _ _ _
      | exact ih3 _ _ _ _ _ _ _ _
      | exact K_SameRing.mono _ _ _ _ _ _ _
      | exact L05_awake.mono _
      | exact R05_Age.mono _ _ _ _ _
      | exact R05_Check.mono _ _ _ _
      | exact R05_Find.mono _ _ _ _ _
      | exact R05_First.mono _ _ _ _ _
      | exact R05_Rest.mono _ _ _ _
      | exact ring_Check.mono _ _ _ _
      | exact ring_Rest.mono _ _ _ _
      | exact LeO.none _
      | refine LeO.ite ?_ ?_
      | refine LeO.bind ?_ (fun _ => ?_)
    · intro y0 y1 y2 y3 y4 y5 y6 y7 y8
      unfold L05_RingLooks.j1
      repeat' first
      | (with_reducible exact ih0 _ _ _ _ _ _ _ _ _)
      | (with_reducible exact ih1 _ _ _ _ _ _ _ _ _)
      | (with_reducible exact ih2 _ _ _ _ _ _ _ _)
      | (with_reducible exact ih3 _ _ _ _ _ _ _ _)
      | (with_reducible exact K_SameRing.mono _ _ _ _ _ _ _)
      | (with_reducible exact L05_awake.mono _)
      | (with_reducible exact R05_Age.mono _ _ _ _ _)
      | (with_reducible exact R05_Check.mono _ _ _ _)
      | (with_reducible exact R05_Find.mono _ _ _ _ _)
      | (with_reducible exact R05_First.mono _ _ _ _ _)
      | (with_reducible exact R05_Rest.mono _ _ _ _)
      | (with_reducible exact ring_Check.mono _ _ _ _)
      | (with_reducible exact ring_Rest.mono _ _ _ _)
      | (with_reducible exact LeO.refl _)
      | (with_reducible exact LeO.none _)
      | (with_reducible refine LeO.ite ?_ ?_)
      | (with_reducible refine LeO.bind ?_ (fun _ => ?_))
      | exact ih0 _ _ _ _ _ _ _ _ _
      | exact ih1 _ _ _ _ _ _ _ _ _
      | exact ih2 _ _ _ _ _ _ _ _
      | exact ih3 _ _ _ _ _ _ _ _
      | exact K_SameRing.mono _ _ _ _ _ _ _
      | exact L05_awake.mono _
      | exact R05_Age.mono _ _ _ _ _
      | exact R05_Check.mono _ _ _ _
      | exact R05_Find.mono _ _ _ _ _
      | exact R05_First.mono _ _ _ _ _
      | exact R05_Rest.mono _ _ _ _
      | exact ring_Check.mono _ _ _ _
      | exact ring_Rest.mono _ _ _ _
      | exact LeO.none _
      | refine LeO.ite ?_ ?_
      | refine LeO.bind ?_ (fun _ => ?_)
    · intro y0 y1 y2 y3 y4 y5 y6 y7
      unfold L05_RingLooks.j2
      repeat' first
      | (with_reducible exact ih0 _ _ _ _ _ _ _ _ _)
      | (with_reducible exact ih1 _ _ _ _ _ _ _ _ _)
      | (with_reducible exact ih2 _ _ _ _ _ _ _ _)
      | (with_reducible exact ih3 _ _ _ _ _ _ _ _)
      | (with_reducible exact K_SameRing.mono _ _ _ _ _ _ _)
      | (with_reducible exact L05_awake.mono _)
      | (with_reducible exact R05_Age.mono _ _ _ _ _)
      | (with_reducible exact R05_Check.mono _ _ _ _)
      | (with_reducible exact R05_Find.mono _ _ _ _ _)
      | (with_reducible exact R05_First.mono _ _ _ _ _)
      | (with_reducible exact R05_Rest.mono _ _ _ _)
      | (with_reducible exact ring_Check.mono _ _ _ _)
      | (with_reducible exact ring_Rest.mono _ _ _ _)
      | (with_reducible exact LeO.refl _)
      | (with_reducible exact LeO.none _)
      | (with_reducible refine LeO.ite ?_ ?_)
      | (with_reducible refine LeO.bind ?_ (fun _ => ?_))
      | exact ih0 _ _ _ _ _ _ _ _ _
      | exact ih1 _ _ _ _ _ _ _ _ _
      | exact ih2 _ _ _ _ _ _ _ _
      | exact ih3 _ _ _ _ _ _ _ _
      | exact K_SameRing.mono _ _ _ _ _ _ _
      | exact L05_awake.mono _
      | exact R05_Age.mono _ _ _ _ _
      | exact R05_Check.mono _ _ _ _
      | exact R05_Find.mono _ _ _ _ _
      | exact R05_First.mono _ _ _ _ _
      | exact R05_Rest.mono _ _ _ _
      | exact ring_Check.mono _ _ _ _
      | exact ring_Rest.mono _ _ _ _
      | exact LeO.none _
      | refine LeO.ite ?_ ?_
      | refine LeO.bind ?_ (fun _ => ?_)
    · intro y0 y1 y2 y3 y4 y5 y6 y7
      unfold L05_RingLooks.j3
      repeat' first
      | (with_reducible exact ih0 _ _ _ _ _ _ _ _ _)
      | (with_reducible exact ih1 _ _ _ _ _ _ _ _ _)
      | (with_reducible exact ih2 _ _ _ _ _ _ _ _)
      | (with_reducible exact ih3 _ _ _ _ _ _ _ _)
      | (with_reducible exact K_SameRing.mono _ _ _ _ _ _ _)
      | (with_reducible exact L05_awake.mono _)
      | (with_reducible exact R05_Age.mono _ _ _ _ _)
      | (with_reducible exact R05_Check.mono _ _ _ _)
      | (with_reducible exact R05_Find.mono _ _ _ _ _)
      | (with_reducible exact R05_First.mono _ _ _ _ _)
      | (with_reducible exact R05_Rest.mono _ _ _ _)
      | (with_reducible exact ring_Check.mono _ _ _ _)
      | (with_reducible exact ring_Rest.mono _ _ _ _)
      | (with_reducible exact LeO.refl _)
      | (with_reducible exact LeO.none _)
      | (with_reducible refine LeO.ite ?_ ?_)
      | (with_reducible refine LeO.bind ?_ (fun _ => ?_))
      | exact ih0 _ _ _ _ _ _ _ _ _
      | exact ih1 _ _ _ _ _ _ _ _ _
      | exact ih2 _ _ _ _ _ _ _ _
      | exact ih3 _ _ _ _ _ _ _ _
      | exact K_SameRing.mono _ _ _ _ _ _ _
      | exact L05_awake.mono _
      | exact R05_Age.mono _ _ _ _ _
      | exact R05_Check.mono _ _ _ _
      | exact R05_Find.mono _ _ _ _ _
      | exact R05_First.mono _ _ _ _ _
      | exact R05_Rest.mono _ _ _ _
      | exact ring_Check.mono _ _ _ _
      | exact ring_Rest.mono _ _ _ _
      | exact LeO.none _
      | refine LeO.ite ?_ ?_
      | refine LeO.bind ?_ (fun _ => ?_)
theorem L05_RingLooks.mono : ∀ a0 a1 a2 a3 a4 k, LeO (L05_RingLooks.f k a0 a1 a2 a3 a4) (L05_RingLooks.f (k + 1) a0 a1 a2 a3 a4) := by
  intro a0 a1 a2 a3 a4 k
  obtain ⟨ih0, ih1, ih2, ih3⟩ := L05_RingLooks.mono_l k
  unfold L05_RingLooks.f
  repeat' first
      | (with_reducible exact ih0 _ _ _ _ _ _ _ _ _)
      | (with_reducible exact ih1 _ _ _ _ _ _ _ _ _)
      | (with_reducible exact ih2 _ _ _ _ _ _ _ _)
      | (with_reducible exact ih3 _ _ _ _ _ _ _ _)
      | (with_reducible exact K_SameRing.mono _ _ _ _ _ _ _)
      | (with_reducible exact L05_awake.mono _)
      | (with_reducible exact R05_Age.mono _ _ _ _ _)
      | (with_reducible exact R05_Check.mono _ _ _ _)
      | (with_reducible exact R05_Find.mono _ _ _ _ _)
      | (with_reducible exact R05_First.mono _ _ _ _ _)
      | (with_reducible exact R05_Rest.mono _ _ _ _)
      | (with_reducible exact ring_Check.mono _ _ _ _)
      | (with_reducible exact ring_Rest.mono _ _ _ _)
      | (with_reducible exact LeO.refl _)
      | (with_reducible exact LeO.none _)
      | (with_reducible refine LeO.ite ?_ ?_)
      | (with_reducible refine LeO.bind ?_ (fun _ => ?_))
      | exact ih0 _ _ _ _ _ _ _ _ _
      | exact ih1 _ _ _ _ _ _ _ _ _
      | exact ih2 _ _ _ _ _ _ _ _
      | exact ih3 _ _ _ _ _ _ _ _
      | exact K_SameRing.mono _ _ _ _ _ _ _
      | exact L05_awake.mono _
      | exact R05_Age.mono _ _ _ _ _
      | exact R05_Check.mono _ _ _ _
      | exact R05_Find.mono _ _ _ _ _
      | exact R05_First.mono _ _ _ _ _
      | exact R05_Rest.mono _ _ _ _
      | exact ring_Check.mono _ _ _ _
      | exact ring_Rest.mono _ _ _ _
      | exact LeO.none _
      | refine LeO.ite ?_ ?_
      | refine LeO.bind ?_ (fun _ => ?_)
theorem L05_RingLooks.j0_d47true (k : Nat) (x1 : Int) (x2 : Int) (x396000 : Int) (x396001 : Int) (x396002 : List (S35)) (x403000 : Int) (x403001 : Int) (x403002 : List (S35)) : L05_RingLooks.j0 k x1 x2 true x396000 x396001 x396002 x403000 x403001 x403002 ≠ some true := by
  cases k with
  | zero => simp only [L05_RingLooks.j0]; exact never_none
  | succ k =>
    simp only [L05_RingLooks.j0]
    all_goals (try rw [if_pos rfl])
    all_goals (repeat (first | exact never_none | exact never_false | refine never_ite ?_ ?_ | refine never_bind (fun _ => ?_)))
theorem L05_RingLooks.j1_d65true (k : Nat) (x1 : Int) (x2 : Int) (x396000 : Int) (x396001 : Int) (x396002 : List (S35)) (x403000 : Int) (x403001 : Int) (x403002 : List (S35)) : L05_RingLooks.j1 k x1 x2 true x396000 x396001 x396002 x403000 x403001 x403002 ≠ some true := by
  cases k with
  | zero => simp only [L05_RingLooks.j1]; exact never_none
  | succ k =>
    simp only [L05_RingLooks.j1]
    all_goals (try rw [if_pos rfl])
    all_goals (repeat (first | exact never_none | exact never_false | refine never_ite ?_ ?_ | refine never_bind (fun _ => ?_) | exact L05_RingLooks.j0_d47true _ _ _ _ _ _ _ _ _))
theorem L05_RingLooks.j2_d85true (k : Nat) (x2 : Int) (x396000 : Int) (x396001 : Int) (x396002 : List (S35)) (x403000 : Int) (x403001 : Int) (x403002 : List (S35)) : L05_RingLooks.j2 k x2 true x396000 x396001 x396002 x403000 x403001 x403002 ≠ some true := by
  cases k with
  | zero => simp only [L05_RingLooks.j2]; exact never_none
  | succ k =>
    simp only [L05_RingLooks.j2]
    all_goals (try rw [if_pos rfl])
    all_goals (repeat (first | exact never_none | exact never_false | refine never_ite ?_ ?_ | refine never_bind (fun _ => ?_) | exact L05_RingLooks.j0_d47true _ _ _ _ _ _ _ _ _ | exact L05_RingLooks.j1_d65true _ _ _ _ _ _ _ _ _))
theorem L05_RingLooks.j3_d105true (k : Nat) (x2 : Int) (x396000 : Int) (x396001 : Int) (x396002 : List (S35)) (x403000 : Int) (x403001 : Int) (x403002 : List (S35)) : L05_RingLooks.j3 k x2 true x396000 x396001 x396002 x403000 x403001 x403002 ≠ some true := by
  cases k with
  | zero => simp only [L05_RingLooks.j3]; exact never_none
  | succ k =>
    simp only [L05_RingLooks.j3]
    all_goals (try rw [if_pos rfl])
    all_goals (repeat (first | exact never_none | exact never_false | refine never_ite ?_ ?_ | refine never_bind (fun _ => ?_) | exact L05_RingLooks.j0_d47true _ _ _ _ _ _ _ _ _ | exact L05_RingLooks.j1_d65true _ _ _ _ _ _ _ _ _ | exact L05_RingLooks.j2_d85true _ _ _ _ _ _ _ _))
set_option maxHeartbeats 8000000 in
set_option maxRecDepth 100000 in
theorem L05_RingLooks.calls (k : Nat) (a0_0 : Int) (a0_1 : Int) (A0_2 : Option Addr) (c0_2 : Nat) (l0_2 : List (S35)) (a1 : Int) (a2 : Int) (r : Bool) (w : World) (hr0_2 : Kd.C k35 w A0_2 l0_2.length l0_2) (hc0_2 : l0_2.length ≤ c0_2) (h : L05_RingLooks.f k a0_0 a0_1 l0_2 a1 a2 = some r) (ht_ : r = true := by rfl) :
    Calls Try.prog 4 #[.agg #[.int .i64 a0_0, .int .u64 a0_1, .slice A0_2 l0_2.length c0_2], .int .i64 a1, .int .u64 a2] w fun e w' => e = .returned (.bool r) ∧ Below w.heap.size w w' := by
  subst ht_
  have hu25 := Try.underlying25
  have hu35 := Try.underlying35
  have HR0_2 := Aside0.mk hr0_2
  have HC0_2 := Aside0.mk hc0_2
  clear hr0_2 hc0_2
  have HB := Aside0.mk (Below.refl w.heap.size w)
  have H : (if (l0_2.length : Int) > 40 then ((L05_awake.f k).bind fun t396 => (some t396)) else ((K_OwnRing.f a0_0 a0_1 l0_2).bind fun bt397 => ((ring_New.f a1).bind fun bt403 => ((R05_New.f a1).bind fun bt410 => ((K_SameRing.f k bt403.1 bt403.2.1 bt403.2.2.1 bt410.1 bt410.2.1 bt410.2.2.1).bind fun t417 => (if t417 = true then (L05_RingLooks.j0 k a1 a2 (bt403.2.2.2 != bt410.2.2.2) a0_0 a0_1 l0_2 bt397.1 bt397.2.1 bt397.2.2) else (L05_RingLooks.j0 k a1 a2 true a0_0 a0_1 l0_2 bt397.1 bt397.2.1 bt397.2.2))))))) = some true := h
  clear h
  by_cases c4 : (l0_2.length : Int) > 40
  · rw [if_pos c4] at H
    have c4b0 : decide (40 < (l0_2.length : Int)) = true := decide_eq_true c4
    have c4b1 : decide (40 < l0_2.length) = true := decide_eq_true (by omega)
    clear c4
    replace H := Option.bind_eq_some_iff.mp H
    obtain ⟨t396, A50, H⟩ := H
    replace H : (some t396) = some true := H
    have A5 := Aside0.mk A50
    clear A50
    have Ht_ := Option.some.inj H
    clear H
    subst Ht_
    have H : (some true : Option Bool) = some true := rfl
    clear H
    go_enter Try.func4, Try.ntmps4
    go_wp2_with (first | ((with_reducible refine gate_dst (N := 3) rfl ?_); refine box_event ?hg (N := 3) ?hd (cs := #[.int .i64 a0_0, .int .u64 a0_1, .slice A0_2 l0_2.length c0_2]) (t := 25) ?hr ?_; (case hd => rfl); (case hg => rfl); (case hr => first | (go_simp; done) | (go_simp; rfl)); intro gb395 hg w6 hbox hb; have n0_ := Aside0.mk (below_step (by repeat (first | (with_reducible first | exact HB.out | apply below_alloc | apply pw_below_drewN | apply below_drew1) | exact HB.out)) hb); have n1_ := Aside0.mk (hbox); have n2_ := Aside0.mk ((by rw [hg]; exact (below_size (by repeat (first | (with_reducible first | exact HB.out | apply below_alloc | apply pw_below_drewN | apply below_drew1) | exact HB.out))) : w.heap.size ≤ gb395)); have n3_ := Aside0.mk ((by rw [hg]; exact (below_size (by repeat (first | (with_reducible first | exact HB.out | apply below_alloc | apply pw_below_drewN | apply below_drew1) | exact HB.out))) : w.heap.size ≤ gb395)); clear HB; have HB := n0_; have BK395 := n1_; have GW395 := n2_; have GE395 := n3_; clear n0_ n1_ n2_ n3_; clear hb hbox hg; have hcz7_0 : w6.cell? ⟨gb395, 0, none⟩ = some (.int .i64 a0_0) := (blk_cell BK395.out 0).trans rfl; have hcz7_1 : w6.cell? ⟨gb395, 1, none⟩ = some (.int .u64 a0_1) := (blk_cell BK395.out 1).trans rfl; have hcz7_2 : w6.cell? ⟨gb395, 2, none⟩ = some (.slice A0_2 l0_2.length c0_2) := (blk_cell BK395.out 2).trans rfl; have hfz7_0 := blk_frozen BK395.out 0; have hfz7_1 := blk_frozen BK395.out 1; have hfz7_2 := blk_frozen BK395.out 2) | ((with_reducible refine gate_callee (f := 9) rfl ?_); refine goesL_ (some 26) rfl rfl Try.func9 (by kernel_rfl) rfl #[] rfl (by (try simp only [List.map_toArray, List.map_cons, List.map_nil]); first | done | rfl | (simp only [List.length_drop, List.length_take]; rfl)) ?_; (with_reducible refine (L05_awake.calls k  true _ A5.out).mono ?_); rintro e w8 ⟨rfl, hb⟩; refine ⟨_, rfl, ?_⟩; have n0_ := Aside0.mk (blk_below (g := gb395) (o := .cells #[.int .i64 a0_0, .int .u64 a0_1, .slice A0_2 l0_2.length c0_2] 25 (0, 0)) (by (with_reducible repeat (first | refine blk_drewN ?_ _ | refine blk_drew ?_ | refine blk_alloc ?_ _)); exact BK395.out) hb); have n1_ := Aside0.mk (below_step (by repeat (first | (with_reducible first | exact HB.out | apply below_alloc | apply pw_below_drewN | apply below_drew1 | refine below_set ?_ GE395.out) | exact HB.out)) hb); clear BK395; clear HB; have BK395 := n0_; have HB := n1_; clear n0_ n1_; (try clear hb); (try clear hb2); (try clear hk); (try clear hi)))
    all_goals go_ret
    all_goals exact ⟨by first | rfl | (simp [errW_none, errW_some] <;> rfl) | (simp [*, errW_none, errW_some] <;> rfl), by repeat (first | (with_reducible first | exact HB.out | apply below_alloc | apply pw_below_drewN | apply below_drew1 | refine below_set ?_ GE395.out) | exact HB.out)⟩
  · rw [if_neg c4] at H
    have c4b0 : decide (40 < (l0_2.length : Int)) = false := decide_eq_false c4
    have c4b1 : decide (40 < l0_2.length) = false := decide_eq_false (by omega)
    clear c4
    replace H := Option.bind_eq_some_iff.mp H
    obtain ⟨⟨t397, t398, t399⟩, A90, H⟩ := H
    replace H : ((ring_New.f a1).bind fun bt403 => ((R05_New.f a1).bind fun bt410 => ((K_SameRing.f k bt403.1 bt403.2.1 bt403.2.2.1 bt410.1 bt410.2.1 bt410.2.2.1).bind fun t417 => (if t417 = true then (L05_RingLooks.j0 k a1 a2 (bt403.2.2.2 != bt410.2.2.2) a0_0 a0_1 l0_2 t397 t398 t399) else (L05_RingLooks.j0 k a1 a2 true a0_0 a0_1 l0_2 t397 t398 t399))))) = some true := H
    have A9 := Aside0.mk A90
    clear A90
    replace H := Option.bind_eq_some_iff.mp H
    obtain ⟨⟨t403, t404, t405, t408⟩, A100, H⟩ := H
    replace H : ((R05_New.f a1).bind fun bt410 => ((K_SameRing.f k t403 t404 t405 bt410.1 bt410.2.1 bt410.2.2.1).bind fun t417 => (if t417 = true then (L05_RingLooks.j0 k a1 a2 (t408 != bt410.2.2.2) a0_0 a0_1 l0_2 t397 t398 t399) else (L05_RingLooks.j0 k a1 a2 true a0_0 a0_1 l0_2 t397 t398 t399)))) = some true := H
    have A10 := Aside0.mk A100
    clear A100
    replace H := Option.bind_eq_some_iff.mp H
    obtain ⟨⟨t410, t411, t412, t415⟩, A110, H⟩ := H
    replace H : ((K_SameRing.f k t403 t404 t405 t410 t411 t412).bind fun t417 => (if t417 = true then (L05_RingLooks.j0 k a1 a2 (t408 != t415) a0_0 a0_1 l0_2 t397 t398 t399) else (L05_RingLooks.j0 k a1 a2 true a0_0 a0_1 l0_2 t397 t398 t399))) = some true := H
    have A11 := Aside0.mk A110
    clear A110
    have HC12 := Aside0.mk H
    clear H
    go_enter Try.func4, Try.ntmps4
    go_upto_region 6 with (first | ((with_reducible refine gate_dst (N := 3) rfl ?_); refine box_event ?hg (N := 3) ?hd (cs := #[.int .i64 a0_0, .int .u64 a0_1, .slice A0_2 l0_2.length c0_2]) (t := 25) ?hr ?_; (case hd => rfl); (case hg => rfl); (case hr => first | (go_simp; done) | (go_simp; rfl)); intro gb395 hg w13 hbox hb; have n0_ := Aside0.mk (below_step (by repeat (first | (with_reducible first | exact HB.out | apply below_alloc | apply pw_below_drewN | apply below_drew1) | exact HB.out)) hb); have n1_ := Aside0.mk (hbox); have n2_ := Aside0.mk ((by rw [hg]; exact (below_size (by repeat (first | (with_reducible first | exact HB.out | apply below_alloc | apply pw_below_drewN | apply below_drew1) | exact HB.out))) : w.heap.size ≤ gb395)); have n3_ := Aside0.mk ((by rw [hg]; exact (below_size (by repeat (first | (with_reducible first | exact HB.out | apply below_alloc | apply pw_below_drewN | apply below_drew1) | exact HB.out))) : w.heap.size ≤ gb395)); clear HB; have HB := n0_; have BK395 := n1_; have GW395 := n2_; have GE395 := n3_; clear n0_ n1_ n2_ n3_; clear hb hbox hg; have hcz14_0 : w13.cell? ⟨gb395, 0, none⟩ = some (.int .i64 a0_0) := (blk_cell BK395.out 0).trans rfl; have hcz14_1 : w13.cell? ⟨gb395, 1, none⟩ = some (.int .u64 a0_1) := (blk_cell BK395.out 1).trans rfl; have hcz14_2 : w13.cell? ⟨gb395, 2, none⟩ = some (.slice A0_2 l0_2.length c0_2) := (blk_cell BK395.out 2).trans rfl; have hfz14_0 := blk_frozen BK395.out 0; have hfz14_1 := blk_frozen BK395.out 1; have hfz14_2 := blk_frozen BK395.out 2) | ((with_reducible refine gate_callee (f := 10) rfl ?_); refine goesL_ (some 28) rfl rfl Try.func10 (by kernel_rfl) rfl #[.agg #[.int .i64 a0_0, .int .u64 a0_1, .slice A0_2 l0_2.length c0_2]] rfl (by (try simp only [List.map_toArray, List.map_cons, List.map_nil]); first | done | rfl | (simp only [List.length_drop, List.length_take]; rfl)) ?_; (with_reducible refine (K_OwnRing.calls a0_0 a0_1 _ _ l0_2 t397 t398 t399 _ ?side1 ?side2 A9.out).mono ?_); (case side1 => repeat (first | exact (Kd.C_below HR0_2.out HB.out) | (with_reducible refine Kd.C_alloc ?_ _) | (with_reducible refine Kd.C_drewN ?_ _) | (with_reducible refine Kd.C_drew ?_))); (case side2 => exact HC0_2.out); rintro e w15 ⟨v400, rfl, ho0, hb⟩; refine ⟨_, rfl, ?_⟩; have n0_ := Aside0.mk (Kd.R_lower ho0 (below_size (by repeat (first | (with_reducible first | exact HB.out | apply below_alloc | apply pw_below_drewN | apply below_drew1 | refine below_set ?_ GE395.out) | exact HB.out)))); have n1_ := Aside0.mk (blk_below (g := gb395) (o := .cells #[.int .i64 a0_0, .int .u64 a0_1, .slice A0_2 l0_2.length c0_2] 25 (0, 0)) (by (with_reducible repeat (first | refine blk_drewN ?_ _ | refine blk_drew ?_ | refine blk_alloc ?_ _)); exact BK395.out) hb); have n2_ := Aside0.mk (below_step (by repeat (first | (with_reducible first | exact HB.out | apply below_alloc | apply pw_below_drewN | apply below_drew1 | refine below_set ?_ GE395.out) | exact HB.out)) hb); clear BK395; clear HB; have HO401 := n0_; have BK395 := n1_; have HB := n2_; clear n0_ n1_ n2_; (try clear hb); (try clear hb2); (try clear hk); (try clear hi); (try clear ho0)) | ((with_reducible refine gate_dst (N := 7) rfl ?_); refine box_event ?hg (N := 7) ?hd (cs := #[.int .i64 0, .int .u64 0, .slice none 0 0]) (t := 25) ?hr ?_; (case hd => rfl); (case hg => rfl); (case hr => first | (go_simp; done) | (go_simp; rfl)); intro gb402 hg w16 hbox hb; have n0_ := Aside0.mk (Kd.R_below (by (with_reducible repeat (first | apply Kd.R_alloc | apply Kd.R_drewN | apply Kd.R_drew)); exact HO401.out) hb); have n1_ := Aside0.mk (blk_below (g := gb395) (o := .cells #[.int .i64 a0_0, .int .u64 a0_1, .slice A0_2 l0_2.length c0_2] 25 (0, 0)) (by (with_reducible repeat (first | refine blk_drewN ?_ _ | refine blk_drew ?_ | refine blk_alloc ?_ _)); exact BK395.out) hb); have n2_ := Aside0.mk (below_step (by repeat (first | (with_reducible first | exact HB.out | apply below_alloc | apply pw_below_drewN | apply below_drew1 | refine below_set ?_ GE395.out) | exact HB.out)) hb); have n3_ := Aside0.mk (hbox); have n4_ := Aside0.mk ((by rw [hg]; exact (below_size (by repeat (first | (with_reducible first | exact HB.out | apply below_alloc | apply pw_below_drewN | apply below_drew1 | refine below_set ?_ GE395.out) | exact HB.out))) : w.heap.size ≤ gb402)); have n5_ := Aside0.mk ((by rw [hg]; exact (below_size (by repeat (first | (with_reducible first | exact HB.out | apply below_alloc | apply pw_below_drewN | apply below_drew1 | refine below_set ?_ GE395.out) | exact HB.out))) : w.heap.size ≤ gb402)); have n6_ := Aside0.mk ((by rw [hg]; exact Nat.ne_of_lt (blk_lt (g := gb395) (o := .cells #[.int .i64 a0_0, .int .u64 a0_1, .slice A0_2 l0_2.length c0_2] 25 (0, 0)) (by (with_reducible repeat (first | refine blk_drewN ?_ _ | refine blk_drew ?_ | refine blk_alloc ?_ _)); exact BK395.out)) : gb395 ≠ gb402)); have n7_ := Aside0.mk ((by rw [hg]; exact Nat.ne_of_gt (blk_lt (g := gb395) (o := .cells #[.int .i64 a0_0, .int .u64 a0_1, .slice A0_2 l0_2.length c0_2] 25 (0, 0)) (by (with_reducible repeat (first | refine blk_drewN ?_ _ | refine blk_drew ?_ | refine blk_alloc ?_ _)); exact BK395.out)) : gb402 ≠ gb395)); clear HO401; clear BK395; clear HB; have HO401 := n0_; have BK395 := n1_; have HB := n2_; have BK402 := n3_; have GW402 := n4_; have GE402 := n5_; have NB395_402 := n6_; have NB402_395 := n7_; clear n0_ n1_ n2_ n3_ n4_ n5_ n6_ n7_; clear hb hbox hg; have hnb17 := NB402_395.out; have hnc17 := NB395_402.out; have hcz18_0 : w16.cell? ⟨gb402, 0, none⟩ = some (.int .i64 0) := (blk_cell BK402.out 0).trans rfl; have hcz18_1 : w16.cell? ⟨gb402, 1, none⟩ = some (.int .u64 0) := (blk_cell BK402.out 1).trans rfl; have hcz18_2 : w16.cell? ⟨gb402, 2, none⟩ = some (.slice none 0 0) := (blk_cell BK402.out 2).trans rfl; have hfz18_0 := blk_frozen BK402.out 0; have hfz18_1 := blk_frozen BK402.out 1; have hfz18_2 := blk_frozen BK402.out 2; obtain ⟨Ao19, co19, eo19⟩ := Kd.R_slice HO401.out; subst eo19) | ((with_reducible refine gate_callee (f := 21) rfl ?_); refine goesL_ (some 31) rfl rfl Try.func21 (by kernel_rfl) rfl #[.int .i64 a1] rfl (by (try simp only [List.map_toArray, List.map_cons, List.map_nil]); first | done | rfl | (simp only [List.length_drop, List.length_take]; rfl)) ?_; (with_reducible refine (ring_New.calls a1 t403 t404 t405 t408 _ A10.out).mono ?_); rintro e w20 ⟨v406, rfl, ho0, hb⟩; refine ⟨_, rfl, ?_⟩; have n0_ := Aside0.mk (Kd.R_elder' (by (with_reducible repeat (first | apply Kd.R_alloc | apply Kd.R_drewN | apply Kd.R_drew)); exact (Kd.R_mono (Kd.R_far (p := ⟨gb402, 2, none⟩) (Kd.R_far (p := ⟨gb402, 1, none⟩) (Kd.R_far (p := ⟨gb402, 0, none⟩) (Kd.R_types HO401.out BK402.out (by decide)) (fun _ hk => hk.2) (.int .i64 t397)) (fun _ hk => hk.2) (.int .u64 t398)) (fun _ hk => hk.2) (.slice Ao19 t399.length co19)) (fun _ h_ => h_.1))) (Kd.R_base ho0) hb); have n1_ := Aside0.mk (Kd.R_lower (Kd.R_new' ho0 (Kd.R_lt (by (with_reducible repeat (first | apply Kd.R_alloc | apply Kd.R_drewN | apply Kd.R_drew)); exact (Kd.R_mono (Kd.R_far (p := ⟨gb402, 2, none⟩) (Kd.R_far (p := ⟨gb402, 1, none⟩) (Kd.R_far (p := ⟨gb402, 0, none⟩) (Kd.R_types HO401.out BK402.out (by decide)) (fun _ hk => hk.2) (.int .i64 t397)) (fun _ hk => hk.2) (.int .u64 t398)) (fun _ hk => hk.2) (.slice Ao19 t399.length co19)) (fun _ h_ => h_.1))))) (below_size (by repeat (first | (with_reducible first | exact HB.out | apply below_alloc | apply pw_below_drewN | apply below_drew1 | refine below_set ?_ GE395.out | refine below_set ?_ GE402.out) | exact HB.out)))); have n2_ := Aside0.mk (blk_below (g := gb395) (o := .cells #[.int .i64 a0_0, .int .u64 a0_1, .slice A0_2 l0_2.length c0_2] 25 (0, 0)) (by (with_reducible repeat (first | refine blk_drewN ?_ _ | refine blk_drew ?_ | refine blk_alloc ?_ _)); refine blk_far ?_ NB395_402.out _; (with_reducible repeat (first | refine blk_drewN ?_ _ | refine blk_drew ?_ | refine blk_alloc ?_ _)); refine blk_far ?_ NB395_402.out _; (with_reducible repeat (first | refine blk_drewN ?_ _ | refine blk_drew ?_ | refine blk_alloc ?_ _)); refine blk_far ?_ NB395_402.out _; (with_reducible repeat (first | refine blk_drewN ?_ _ | refine blk_drew ?_ | refine blk_alloc ?_ _)); exact BK395.out) hb); have n3_ := Aside0.mk (blk_below (g := gb402) (o := .cells #[.int .i64 t397, .int .u64 t398, .slice Ao19 t399.length co19] 25 (0, 0)) (by (with_reducible repeat (first | refine blk_drewN ?_ _ | refine blk_drew ?_ | refine blk_alloc ?_ _)); refine blk_put (cs := #[.int .i64 t397, .int .u64 t398, .slice none 0 0]) ?_ 2 _ rfl; (with_reducible repeat (first | refine blk_drewN ?_ _ | refine blk_drew ?_ | refine blk_alloc ?_ _)); refine blk_put (cs := #[.int .i64 t397, .int .u64 0, .slice none 0 0]) ?_ 1 _ rfl; (with_reducible repeat (first | refine blk_drewN ?_ _ | refine blk_drew ?_ | refine blk_alloc ?_ _)); refine blk_put (cs := #[.int .i64 0, .int .u64 0, .slice none 0 0]) ?_ 0 _ rfl; (with_reducible repeat (first | refine blk_drewN ?_ _ | refine blk_drew ?_ | refine blk_alloc ?_ _)); exact BK402.out) hb); have n4_ := Aside0.mk (below_step (by repeat (first | (with_reducible first | exact HB.out | apply below_alloc | apply pw_below_drewN | apply below_drew1 | refine below_set ?_ GE395.out | refine below_set ?_ GE402.out) | exact HB.out)) hb); clear HO401; clear BK395; clear BK402; clear HB; have HO401 := n0_; have HO407 := n1_; have BK395 := n2_; have BK402 := n3_; have HB := n4_; clear n0_ n1_ n2_ n3_ n4_; (try clear hb); (try clear hb2); (try clear hk); (try clear hi); (try clear ho0)) | ((with_reducible refine gate_dst (N := 8) rfl ?_); refine box_event ?hg (N := 8) ?hd (cs := #[.int .i64 0, .int .u64 0, .slice none 0 0]) (t := 25) ?hr ?_; (case hd => rfl); (case hg => rfl); (case hr => first | (go_simp; done) | (go_simp; rfl)); intro gb409 hg w21 hbox hb; have n0_ := Aside0.mk (Kd.R_below (by (with_reducible repeat (first | apply Kd.R_alloc | apply Kd.R_drewN | apply Kd.R_drew)); exact HO401.out) hb); have n1_ := Aside0.mk (Kd.R_below (by (with_reducible repeat (first | apply Kd.R_alloc | apply Kd.R_drewN | apply Kd.R_drew)); exact HO407.out) hb); have n2_ := Aside0.mk (blk_below (g := gb395) (o := .cells #[.int .i64 a0_0, .int .u64 a0_1, .slice A0_2 l0_2.length c0_2] 25 (0, 0)) (by (with_reducible repeat (first | refine blk_drewN ?_ _ | refine blk_drew ?_ | refine blk_alloc ?_ _)); exact BK395.out) hb); have n3_ := Aside0.mk (blk_below (g := gb402) (o := .cells #[.int .i64 t397, .int .u64 t398, .slice Ao19 t399.length co19] 25 (0, 0)) (by (with_reducible repeat (first | refine blk_drewN ?_ _ | refine blk_drew ?_ | refine blk_alloc ?_ _)); exact BK402.out) hb); have n4_ := Aside0.mk (below_step (by repeat (first | (with_reducible first | exact HB.out | apply below_alloc | apply pw_below_drewN | apply below_drew1 | refine below_set ?_ GE395.out | refine below_set ?_ GE402.out) | exact HB.out)) hb); have n5_ := Aside0.mk (hbox); have n6_ := Aside0.mk ((by rw [hg]; exact (below_size (by repeat (first | (with_reducible first | exact HB.out | apply below_alloc | apply pw_below_drewN | apply below_drew1 | refine below_set ?_ GE395.out | refine below_set ?_ GE402.out) | exact HB.out))) : w.heap.size ≤ gb409)); have n7_ := Aside0.mk ((by rw [hg]; exact (below_size (by repeat (first | (with_reducible first | exact HB.out | apply below_alloc | apply pw_below_drewN | apply below_drew1 | refine below_set ?_ GE395.out | refine below_set ?_ GE402.out) | exact HB.out))) : w.heap.size ≤ gb409)); have n8_ := Aside0.mk ((by rw [hg]; exact Nat.ne_of_lt (blk_lt (g := gb395) (o := .cells #[.int .i64 a0_0, .int .u64 a0_1, .slice A0_2 l0_2.length c0_2] 25 (0, 0)) (by (with_reducible repeat (first | refine blk_drewN ?_ _ | refine blk_drew ?_ | refine blk_alloc ?_ _)); exact BK395.out)) : gb395 ≠ gb409)); have n9_ := Aside0.mk ((by rw [hg]; exact Nat.ne_of_gt (blk_lt (g := gb395) (o := .cells #[.int .i64 a0_0, .int .u64 a0_1, .slice A0_2 l0_2.length c0_2] 25 (0, 0)) (by (with_reducible repeat (first | refine blk_drewN ?_ _ | refine blk_drew ?_ | refine blk_alloc ?_ _)); exact BK395.out)) : gb409 ≠ gb395)); have n10_ := Aside0.mk ((by rw [hg]; exact Nat.ne_of_lt (blk_lt (g := gb402) (o := .cells #[.int .i64 t397, .int .u64 t398, .slice Ao19 t399.length co19] 25 (0, 0)) (by (with_reducible repeat (first | refine blk_drewN ?_ _ | refine blk_drew ?_ | refine blk_alloc ?_ _)); exact BK402.out)) : gb402 ≠ gb409)); have n11_ := Aside0.mk ((by rw [hg]; exact Nat.ne_of_gt (blk_lt (g := gb402) (o := .cells #[.int .i64 t397, .int .u64 t398, .slice Ao19 t399.length co19] 25 (0, 0)) (by (with_reducible repeat (first | refine blk_drewN ?_ _ | refine blk_drew ?_ | refine blk_alloc ?_ _)); exact BK402.out)) : gb409 ≠ gb402)); clear HO401; clear HO407; clear BK395; clear BK402; clear HB; have HO401 := n0_; have HO407 := n1_; have BK395 := n2_; have BK402 := n3_; have HB := n4_; have BK409 := n5_; have GW409 := n6_; have GE409 := n7_; have NB395_409 := n8_; have NB409_395 := n9_; have NB402_409 := n10_; have NB409_402 := n11_; clear n0_ n1_ n2_ n3_ n4_ n5_ n6_ n7_ n8_ n9_ n10_ n11_; clear hb hbox hg; have hnb22 := NB409_395.out; have hnc22 := NB395_409.out; have hnb23 := NB409_402.out; have hnc23 := NB402_409.out; have hcz24_0 : w21.cell? ⟨gb409, 0, none⟩ = some (.int .i64 0) := (blk_cell BK409.out 0).trans rfl; have hcz24_1 : w21.cell? ⟨gb409, 1, none⟩ = some (.int .u64 0) := (blk_cell BK409.out 1).trans rfl; have hcz24_2 : w21.cell? ⟨gb409, 2, none⟩ = some (.slice none 0 0) := (blk_cell BK409.out 2).trans rfl; have hfz24_0 := blk_frozen BK409.out 0; have hfz24_1 := blk_frozen BK409.out 1; have hfz24_2 := blk_frozen BK409.out 2; obtain ⟨Ao25, co25, eo25⟩ := Kd.R_slice HO407.out; subst eo25) | ((with_reducible refine gate_callee (f := 22) rfl ?_); refine goesL_ (some 36) rfl rfl Try.func22 (by kernel_rfl) rfl #[.int .i64 a1] rfl (by (try simp only [List.map_toArray, List.map_cons, List.map_nil]); first | done | rfl | (simp only [List.length_drop, List.length_take]; rfl)) ?_; (with_reducible refine (R05_New.calls a1 t410 t411 t412 t415 _ A11.out).mono ?_); rintro e w26 ⟨v413, rfl, ho0, hb⟩; refine ⟨_, rfl, ?_⟩; have n0_ := Aside0.mk (Kd.R_elder' (by (with_reducible repeat (first | apply Kd.R_alloc | apply Kd.R_drewN | apply Kd.R_drew)); exact (Kd.R_mono (Kd.R_far (p := ⟨gb409, 2, none⟩) (Kd.R_far (p := ⟨gb409, 1, none⟩) (Kd.R_far (p := ⟨gb409, 0, none⟩) (Kd.R_types HO401.out BK409.out (by decide)) (fun _ hk => hk.2) (.int .i64 t403)) (fun _ hk => hk.2) (.int .u64 t404)) (fun _ hk => hk.2) (.slice Ao25 t405.length co25)) (fun _ h_ => h_.1))) (Kd.R_base ho0) hb); have n1_ := Aside0.mk (Kd.R_elder' (by (with_reducible repeat (first | apply Kd.R_alloc | apply Kd.R_drewN | apply Kd.R_drew)); exact (Kd.R_mono (Kd.R_far (p := ⟨gb409, 2, none⟩) (Kd.R_far (p := ⟨gb409, 1, none⟩) (Kd.R_far (p := ⟨gb409, 0, none⟩) (Kd.R_types HO407.out BK409.out (by decide)) (fun _ hk => hk.2) (.int .i64 t403)) (fun _ hk => hk.2) (.int .u64 t404)) (fun _ hk => hk.2) (.slice Ao25 t405.length co25)) (fun _ h_ => h_.1))) (Kd.R_base ho0) hb); have n2_ := Aside0.mk (Kd.R_lower (Kd.R_new' (Kd.R_new' ho0 (Kd.R_lt (by (with_reducible repeat (first | apply Kd.R_alloc | apply Kd.R_drewN | apply Kd.R_drew)); exact (Kd.R_mono (Kd.R_far (p := ⟨gb409, 2, none⟩) (Kd.R_far (p := ⟨gb409, 1, none⟩) (Kd.R_far (p := ⟨gb409, 0, none⟩) (Kd.R_types HO401.out BK409.out (by decide)) (fun _ hk => hk.2) (.int .i64 t403)) (fun _ hk => hk.2) (.int .u64 t404)) (fun _ hk => hk.2) (.slice Ao25 t405.length co25)) (fun _ h_ => h_.1))))) (Kd.R_lt (by (with_reducible repeat (first | apply Kd.R_alloc | apply Kd.R_drewN | apply Kd.R_drew)); exact (Kd.R_mono (Kd.R_far (p := ⟨gb409, 2, none⟩) (Kd.R_far (p := ⟨gb409, 1, none⟩) (Kd.R_far (p := ⟨gb409, 0, none⟩) (Kd.R_types HO407.out BK409.out (by decide)) (fun _ hk => hk.2) (.int .i64 t403)) (fun _ hk => hk.2) (.int .u64 t404)) (fun _ hk => hk.2) (.slice Ao25 t405.length co25)) (fun _ h_ => h_.1))))) (below_size (by repeat (first | (with_reducible first | exact HB.out | apply below_alloc | apply pw_below_drewN | apply below_drew1 | refine below_set ?_ GE395.out | refine below_set ?_ GE402.out | refine below_set ?_ GE409.out) | exact HB.out)))); have n3_ := Aside0.mk (blk_below (g := gb395) (o := .cells #[.int .i64 a0_0, .int .u64 a0_1, .slice A0_2 l0_2.length c0_2] 25 (0, 0)) (by (with_reducible repeat (first | refine blk_drewN ?_ _ | refine blk_drew ?_ | refine blk_alloc ?_ _)); refine blk_far ?_ NB395_409.out _; (with_reducible repeat (first | refine blk_drewN ?_ _ | refine blk_drew ?_ | refine blk_alloc ?_ _)); refine blk_far ?_ NB395_409.out _; (with_reducible repeat (first | refine blk_drewN ?_ _ | refine blk_drew ?_ | refine blk_alloc ?_ _)); refine blk_far ?_ NB395_409.out _; (with_reducible repeat (first | refine blk_drewN ?_ _ | refine blk_drew ?_ | refine blk_alloc ?_ _)); exact BK395.out) hb); have n4_ := Aside0.mk (blk_below (g := gb402) (o := .cells #[.int .i64 t397, .int .u64 t398, .slice Ao19 t399.length co19] 25 (0, 0)) (by (with_reducible repeat (first | refine blk_drewN ?_ _ | refine blk_drew ?_ | refine blk_alloc ?_ _)); refine blk_far ?_ NB402_409.out _; (with_reducible repeat (first | refine blk_drewN ?_ _ | refine blk_drew ?_ | refine blk_alloc ?_ _)); refine blk_far ?_ NB402_409.out _; (with_reducible repeat (first | refine blk_drewN ?_ _ | refine blk_drew ?_ | refine blk_alloc ?_ _)); refine blk_far ?_ NB402_409.out _; (with_reducible repeat (first | refine blk_drewN ?_ _ | refine blk_drew ?_ | refine blk_alloc ?_ _)); exact BK402.out) hb); have n5_ := Aside0.mk (blk_below (g := gb409) (o := .cells #[.int .i64 t403, .int .u64 t404, .slice Ao25 t405.length co25] 25 (0, 0)) (by (with_reducible repeat (first | refine blk_drewN ?_ _ | refine blk_drew ?_ | refine blk_alloc ?_ _)); refine blk_put (cs := #[.int .i64 t403, .int .u64 t404, .slice none 0 0]) ?_ 2 _ rfl; (with_reducible repeat (first | refine blk_drewN ?_ _ | refine blk_drew ?_ | refine blk_alloc ?_ _)); refine blk_put (cs := #[.int .i64 t403, .int .u64 0, .slice none 0 0]) ?_ 1 _ rfl; (with_reducible repeat (first | refine blk_drewN ?_ _ | refine blk_drew ?_ | refine blk_alloc ?_ _)); refine blk_put (cs := #[.int .i64 0, .int .u64 0, .slice none 0 0]) ?_ 0 _ rfl; (with_reducible repeat (first | refine blk_drewN ?_ _ | refine blk_drew ?_ | refine blk_alloc ?_ _)); exact BK409.out) hb); have n6_ := Aside0.mk (below_step (by repeat (first | (with_reducible first | exact HB.out | apply below_alloc | apply pw_below_drewN | apply below_drew1 | refine below_set ?_ GE395.out | refine below_set ?_ GE402.out | refine below_set ?_ GE409.out) | exact HB.out)) hb); clear HO401; clear HO407; clear BK395; clear BK402; clear BK409; clear HB; have HO401 := n0_; have HO407 := n1_; have HO414 := n2_; have BK395 := n3_; have BK402 := n4_; have BK409 := n5_; have HB := n6_; clear n0_ n1_ n2_ n3_ n4_ n5_ n6_; (try clear hb); (try clear hb2); (try clear hk); (try clear hi); (try clear ho0)) | ((with_reducible refine gate_dst (N := 10) rfl ?_); refine box_event ?hg (N := 10) ?hd (cs := #[.int .i64 0, .int .u64 0, .slice none 0 0]) (t := 25) ?hr ?_; (case hd => rfl); (case hg => rfl); (case hr => first | (go_simp; done) | (go_simp; rfl)); intro gb416 hg w27 hbox hb; have n0_ := Aside0.mk (Kd.R_below (by (with_reducible repeat (first | apply Kd.R_alloc | apply Kd.R_drewN | apply Kd.R_drew)); exact HO401.out) hb); have n1_ := Aside0.mk (Kd.R_below (by (with_reducible repeat (first | apply Kd.R_alloc | apply Kd.R_drewN | apply Kd.R_drew)); exact HO407.out) hb); have n2_ := Aside0.mk (Kd.R_below (by (with_reducible repeat (first | apply Kd.R_alloc | apply Kd.R_drewN | apply Kd.R_drew)); exact HO414.out) hb); have n3_ := Aside0.mk (blk_below (g := gb395) (o := .cells #[.int .i64 a0_0, .int .u64 a0_1, .slice A0_2 l0_2.length c0_2] 25 (0, 0)) (by (with_reducible repeat (first | refine blk_drewN ?_ _ | refine blk_drew ?_ | refine blk_alloc ?_ _)); exact BK395.out) hb); have n4_ := Aside0.mk (blk_below (g := gb402) (o := .cells #[.int .i64 t397, .int .u64 t398, .slice Ao19 t399.length co19] 25 (0, 0)) (by (with_reducible repeat (first | refine blk_drewN ?_ _ | refine blk_drew ?_ | refine blk_alloc ?_ _)); exact BK402.out) hb); have n5_ := Aside0.mk (blk_below (g := gb409) (o := .cells #[.int .i64 t403, .int .u64 t404, .slice Ao25 t405.length co25] 25 (0, 0)) (by (with_reducible repeat (first | refine blk_drewN ?_ _ | refine blk_drew ?_ | refine blk_alloc ?_ _)); exact BK409.out) hb); have n6_ := Aside0.mk (below_step (by repeat (first | (with_reducible first | exact HB.out | apply below_alloc | apply pw_below_drewN | apply below_drew1 | refine below_set ?_ GE395.out | refine below_set ?_ GE402.out | refine below_set ?_ GE409.out) | exact HB.out)) hb); have n7_ := Aside0.mk (hbox); have n8_ := Aside0.mk ((by rw [hg]; exact (below_size (by repeat (first | (with_reducible first | exact HB.out | apply below_alloc | apply pw_below_drewN | apply below_drew1 | refine below_set ?_ GE395.out | refine below_set ?_ GE402.out | refine below_set ?_ GE409.out) | exact HB.out))) : w.heap.size ≤ gb416)); have n9_ := Aside0.mk ((by rw [hg]; exact (below_size (by repeat (first | (with_reducible first | exact HB.out | apply below_alloc | apply pw_below_drewN | apply below_drew1 | refine below_set ?_ GE395.out | refine below_set ?_ GE402.out | refine below_set ?_ GE409.out) | exact HB.out))) : w.heap.size ≤ gb416)); have n10_ := Aside0.mk ((by rw [hg]; exact Nat.ne_of_lt (blk_lt (g := gb395) (o := .cells #[.int .i64 a0_0, .int .u64 a0_1, .slice A0_2 l0_2.length c0_2] 25 (0, 0)) (by (with_reducible repeat (first | refine blk_drewN ?_ _ | refine blk_drew ?_ | refine blk_alloc ?_ _)); exact BK395.out)) : gb395 ≠ gb416)); have n11_ := Aside0.mk ((by rw [hg]; exact Nat.ne_of_gt (blk_lt (g := gb395) (o := .cells #[.int .i64 a0_0, .int .u64 a0_1, .slice A0_2 l0_2.length c0_2] 25 (0, 0)) (by (with_reducible repeat (first | refine blk_drewN ?_ _ | refine blk_drew ?_ | refine blk_alloc ?_ _)); exact BK395.out)) : gb416 ≠ gb395)); have n12_ := Aside0.mk ((by rw [hg]; exact Nat.ne_of_lt (blk_lt (g := gb402) (o := .cells #[.int .i64 t397, .int .u64 t398, .slice Ao19 t399.length co19] 25 (0, 0)) (by (with_reducible repeat (first | refine blk_drewN ?_ _ | refine blk_drew ?_ | refine blk_alloc ?_ _)); exact BK402.out)) : gb402 ≠ gb416)); have n13_ := Aside0.mk ((by rw [hg]; exact Nat.ne_of_gt (blk_lt (g := gb402) (o := .cells #[.int .i64 t397, .int .u64 t398, .slice Ao19 t399.length co19] 25 (0, 0)) (by (with_reducible repeat (first | refine blk_drewN ?_ _ | refine blk_drew ?_ | refine blk_alloc ?_ _)); exact BK402.out)) : gb416 ≠ gb402)); have n14_ := Aside0.mk ((by rw [hg]; exact Nat.ne_of_lt (blk_lt (g := gb409) (o := .cells #[.int .i64 t403, .int .u64 t404, .slice Ao25 t405.length co25] 25 (0, 0)) (by (with_reducible repeat (first | refine blk_drewN ?_ _ | refine blk_drew ?_ | refine blk_alloc ?_ _)); exact BK409.out)) : gb409 ≠ gb416)); have n15_ := Aside0.mk ((by rw [hg]; exact Nat.ne_of_gt (blk_lt (g := gb409) (o := .cells #[.int .i64 t403, .int .u64 t404, .slice Ao25 t405.length co25] 25 (0, 0)) (by (with_reducible repeat (first | refine blk_drewN ?_ _ | refine blk_drew ?_ | refine blk_alloc ?_ _)); exact BK409.out)) : gb416 ≠ gb409)); clear HO401; clear HO407; clear HO414; clear BK395; clear BK402; clear BK409; clear HB; have HO401 := n0_; have HO407 := n1_; have HO414 := n2_; have BK395 := n3_; have BK402 := n4_; have BK409 := n5_; have HB := n6_; have BK416 := n7_; have GW416 := n8_; have GE416 := n9_; have NB395_416 := n10_; have NB416_395 := n11_; have NB402_416 := n12_; have NB416_402 := n13_; have NB409_416 := n14_; have NB416_409 := n15_; clear n0_ n1_ n2_ n3_ n4_ n5_ n6_ n7_ n8_ n9_ n10_ n11_ n12_ n13_ n14_ n15_; clear hb hbox hg; have hnb28 := NB416_395.out; have hnc28 := NB395_416.out; have hnb29 := NB416_402.out; have hnc29 := NB402_416.out; have hnb30 := NB416_409.out; have hnc30 := NB409_416.out; have hcz31_0 : w27.cell? ⟨gb416, 0, none⟩ = some (.int .i64 0) := (blk_cell BK416.out 0).trans rfl; have hcz31_1 : w27.cell? ⟨gb416, 1, none⟩ = some (.int .u64 0) := (blk_cell BK416.out 1).trans rfl; have hcz31_2 : w27.cell? ⟨gb416, 2, none⟩ = some (.slice none 0 0) := (blk_cell BK416.out 2).trans rfl; have hfz31_0 := blk_frozen BK416.out 0; have hfz31_1 := blk_frozen BK416.out 1; have hfz31_2 := blk_frozen BK416.out 2; obtain ⟨Ao32, co32, eo32⟩ := Kd.R_slice HO414.out; subst eo32))
    (try simp only [Act.put, List.setIfInBounds_toArray, List.set_cons_zero, List.set_cons_succ])
    go_cut [47] (fun v47 wc => ∃ (kq : Nat) (x47_11 : Bool), v47 = .bool x47_11 ∧ Aside0 (L05_RingLooks.j0 kq a1 a2 x47_11 a0_0 a0_1 l0_2 t397 t398 t399 = some true) ∧ Aside0 (kq ≤ k) ∧ Aside0 (Kd.R k35 35 wc w.heap.size (fun k_ => some k_ ≠ ((.slice Ao25 t405.length co25) : Value).ownBlock ∧ some k_ ≠ ((.slice Ao32 t412.length co32) : Value).ownBlock) (.slice Ao19 t399.length co19) t399) ∧ Aside0 (Kd.R k35 35 wc w.heap.size (fun k_ => some k_ ≠ ((.slice Ao19 t399.length co19) : Value).ownBlock ∧ some k_ ≠ ((.slice Ao32 t412.length co32) : Value).ownBlock) (.slice Ao25 t405.length co25) t405) ∧ Aside0 (Kd.R k35 35 wc w.heap.size (fun k_ => some k_ ≠ ((.slice Ao19 t399.length co19) : Value).ownBlock ∧ some k_ ≠ ((.slice Ao25 t405.length co25) : Value).ownBlock) (.slice Ao32 t412.length co32) t412) ∧ Aside0 (wc.heap[gb395]? = some (.cells #[.int .i64 a0_0, .int .u64 a0_1, (.slice A0_2 l0_2.length c0_2)] 25 (0, 0))) ∧ Aside0 (wc.heap[gb402]? = some (.cells #[.int .i64 t397, .int .u64 t398, (.slice Ao19 t399.length co19)] 25 (0, 0))) ∧ Aside0 (wc.heap[gb409]? = some (.cells #[.int .i64 t403, .int .u64 t404, (.slice Ao25 t405.length co25)] 25 (0, 0))) ∧ Aside0 (wc.heap[gb416]? = some (.cells #[.int .i64 t410, .int .u64 t411, (.slice Ao32 t412.length co32)] 25 (0, 0))) ∧ Aside0 (Below w.heap.size w wc))
    case first =>
      have H := HC12.out
      clear HC12
      replace H := Option.bind_eq_some_iff.mp H
      obtain ⟨t417, A330, H⟩ := H
      replace H : (if t417 = true then (L05_RingLooks.j0 k a1 a2 (t408 != t415) a0_0 a0_1 l0_2 t397 t398 t399) else (L05_RingLooks.j0 k a1 a2 true a0_0 a0_1 l0_2 t397 t398 t399)) = some true := H
      have A33 := Aside0.mk A330
      clear A330
      by_cases c34 : t417 = true
      rotate_left
      · replace c34 := Bool.eq_false_iff.mpr c34
        subst c34
        have H1 : (L05_RingLooks.j0 k a1 a2 true a0_0 a0_1 l0_2 t397 t398 t399) = some true := by rw [if_neg (show ¬ (false = true) by decide)] at H; exact H
        clear H
        have H := H1
        clear H1
        exact absurd H (by repeat (first | exact never_none | exact never_false | refine never_ite ?_ ?_ | refine never_bind (fun _ => ?_) | exact L05_RingLooks.j0_d47true _ _ _ _ _ _ _ _ _ | exact L05_RingLooks.j1_d65true _ _ _ _ _ _ _ _ _ | exact L05_RingLooks.j2_d85true _ _ _ _ _ _ _ _ | exact L05_RingLooks.j3_d105true _ _ _ _ _ _ _ _))
      subst c34
      have H1 : (L05_RingLooks.j0 k a1 a2 (t408 != t415) a0_0 a0_1 l0_2 t397 t398 t399) = some true := by rw [if_pos rfl] at H; exact H
      clear H
      have H := H1
      clear H1
      have H' := Aside0.mk H
      clear H
      have hnb35 := NB409_395.out
      have hnc35 := NB395_409.out
      have hnb36 := NB409_402.out
      have hnc36 := NB402_409.out
      have hnb37 := NB409_416.out
      have hnc37 := NB416_409.out
      have hcz38_0 : w27.cell? ⟨gb409, 0, none⟩ = some (.int .i64 t403) := (blk_cell BK409.out 0).trans rfl
      have hcz38_1 : w27.cell? ⟨gb409, 1, none⟩ = some (.int .u64 t404) := (blk_cell BK409.out 1).trans rfl
      have hcz38_2 : w27.cell? ⟨gb409, 2, none⟩ = some (.slice Ao25 t405.length co25) := (blk_cell BK409.out 2).trans rfl
      have hfz38_0 := blk_frozen BK409.out 0
      have hfz38_1 := blk_frozen BK409.out 1
      have hfz38_2 := blk_frozen BK409.out 2
      have hnb39 := NB416_395.out
      have hnc39 := NB395_416.out
      have hnb40 := NB416_402.out
      have hnc40 := NB402_416.out
      have hcz41_0 : w27.cell? ⟨gb416, 0, none⟩ = some (.int .i64 0) := (blk_cell BK416.out 0).trans rfl
      have hcz41_1 : w27.cell? ⟨gb416, 1, none⟩ = some (.int .u64 0) := (blk_cell BK416.out 1).trans rfl
      have hcz41_2 : w27.cell? ⟨gb416, 2, none⟩ = some (.slice none 0 0) := (blk_cell BK416.out 2).trans rfl
      have hfz41_0 := blk_frozen BK416.out 0
      have hfz41_1 := blk_frozen BK416.out 1
      have hfz41_2 := blk_frozen BK416.out 2
      go_wp2_with (first | ((with_reducible refine gate_callee (f := 14) rfl ?_); refine goesL_ (some 41) rfl rfl Try.func14 (by kernel_rfl) rfl #[.agg #[.int .i64 t403, .int .u64 t404, .slice Ao25 t405.length co25], .agg #[.int .i64 t410, .int .u64 t411, .slice Ao32 t412.length co32]] rfl (by (try simp only [List.map_toArray, List.map_cons, List.map_nil]); first | done | rfl | (simp only [List.length_drop, List.length_take]; rfl)) ?_; (with_reducible refine (K_SameRing.calls k t403 t404 _ _ t405 t410 t411 _ _ t412 true _ ?side1 ?side2 ?side3 ?side4 A33.out).mono ?_); (case side1 => refine (Kd.R_reads' (e := 35) (base := w.heap.size) (ok := fun k_ => ((True ∧ some k_ ≠ (.slice Ao19 t399.length co19 : Value).ownBlock) ∧ some k_ ≠ (.slice Ao32 t412.length co32 : Value).ownBlock)) (n := t405.length) (c := co25) ?_).2.2; exact (by (with_reducible repeat (first | apply Kd.R_alloc | apply Kd.R_drewN | apply Kd.R_drew)); exact (Kd.R_mono (Kd.R_far (p := ⟨gb416, 2, none⟩) (Kd.R_far (p := ⟨gb416, 1, none⟩) (Kd.R_far (p := ⟨gb416, 0, none⟩) (Kd.R_types HO407.out BK416.out (by decide)) (fun _ hk => hk.2) (.int .i64 t410)) (fun _ hk => hk.2) (.int .u64 t411)) (fun _ hk => hk.2) (.slice Ao32 t412.length co32)) (fun _ h_ => h_.1)))); (case side2 => exact (Kd.R_reads' HO407.out).2.1); (case side3 => refine (Kd.R_reads' (e := 35) (base := w.heap.size) (ok := fun k_ => ((True ∧ some k_ ≠ (.slice Ao19 t399.length co19 : Value).ownBlock) ∧ some k_ ≠ (.slice Ao25 t405.length co25 : Value).ownBlock)) (n := t412.length) (c := co32) ?_).2.2; exact (by (with_reducible repeat (first | apply Kd.R_alloc | apply Kd.R_drewN | apply Kd.R_drew)); exact (Kd.R_mono (Kd.R_far (p := ⟨gb416, 2, none⟩) (Kd.R_far (p := ⟨gb416, 1, none⟩) (Kd.R_far (p := ⟨gb416, 0, none⟩) (Kd.R_types HO414.out BK416.out (by decide)) (fun _ hk => hk.2) (.int .i64 t410)) (fun _ hk => hk.2) (.int .u64 t411)) (fun _ hk => hk.2) (.slice Ao32 t412.length co32)) (fun _ h_ => h_.1)))); (case side4 => exact (Kd.R_reads' HO414.out).2.1); rintro e w42 ⟨rfl, hb⟩; refine ⟨_, rfl, ?_⟩; have n0_ := Aside0.mk (Kd.R_below (by (with_reducible repeat (first | apply Kd.R_alloc | apply Kd.R_drewN | apply Kd.R_drew)); exact (Kd.R_mono (Kd.R_far (p := ⟨gb416, 2, none⟩) (Kd.R_far (p := ⟨gb416, 1, none⟩) (Kd.R_far (p := ⟨gb416, 0, none⟩) (Kd.R_types HO401.out BK416.out (by decide)) (fun _ hk => hk.2) (.int .i64 t410)) (fun _ hk => hk.2) (.int .u64 t411)) (fun _ hk => hk.2) (.slice Ao32 t412.length co32)) (fun _ h_ => h_.1))) hb); have n1_ := Aside0.mk (Kd.R_below (by (with_reducible repeat (first | apply Kd.R_alloc | apply Kd.R_drewN | apply Kd.R_drew)); exact (Kd.R_mono (Kd.R_far (p := ⟨gb416, 2, none⟩) (Kd.R_far (p := ⟨gb416, 1, none⟩) (Kd.R_far (p := ⟨gb416, 0, none⟩) (Kd.R_types HO407.out BK416.out (by decide)) (fun _ hk => hk.2) (.int .i64 t410)) (fun _ hk => hk.2) (.int .u64 t411)) (fun _ hk => hk.2) (.slice Ao32 t412.length co32)) (fun _ h_ => h_.1))) hb); have n2_ := Aside0.mk (Kd.R_below (by (with_reducible repeat (first | apply Kd.R_alloc | apply Kd.R_drewN | apply Kd.R_drew)); exact (Kd.R_mono (Kd.R_far (p := ⟨gb416, 2, none⟩) (Kd.R_far (p := ⟨gb416, 1, none⟩) (Kd.R_far (p := ⟨gb416, 0, none⟩) (Kd.R_types HO414.out BK416.out (by decide)) (fun _ hk => hk.2) (.int .i64 t410)) (fun _ hk => hk.2) (.int .u64 t411)) (fun _ hk => hk.2) (.slice Ao32 t412.length co32)) (fun _ h_ => h_.1))) hb); have n3_ := Aside0.mk (blk_below (g := gb395) (o := .cells #[.int .i64 a0_0, .int .u64 a0_1, .slice A0_2 l0_2.length c0_2] 25 (0, 0)) (by (with_reducible repeat (first | refine blk_drewN ?_ _ | refine blk_drew ?_ | refine blk_alloc ?_ _)); refine blk_far ?_ NB395_416.out _; (with_reducible repeat (first | refine blk_drewN ?_ _ | refine blk_drew ?_ | refine blk_alloc ?_ _)); refine blk_far ?_ NB395_416.out _; (with_reducible repeat (first | refine blk_drewN ?_ _ | refine blk_drew ?_ | refine blk_alloc ?_ _)); refine blk_far ?_ NB395_416.out _; (with_reducible repeat (first | refine blk_drewN ?_ _ | refine blk_drew ?_ | refine blk_alloc ?_ _)); exact BK395.out) hb); have n4_ := Aside0.mk (blk_below (g := gb402) (o := .cells #[.int .i64 t397, .int .u64 t398, .slice Ao19 t399.length co19] 25 (0, 0)) (by (with_reducible repeat (first | refine blk_drewN ?_ _ | refine blk_drew ?_ | refine blk_alloc ?_ _)); refine blk_far ?_ NB402_416.out _; (with_reducible repeat (first | refine blk_drewN ?_ _ | refine blk_drew ?_ | refine blk_alloc ?_ _)); refine blk_far ?_ NB402_416.out _; (with_reducible repeat (first | refine blk_drewN ?_ _ | refine blk_drew ?_ | refine blk_alloc ?_ _)); refine blk_far ?_ NB402_416.out _; (with_reducible repeat (first | refine blk_drewN ?_ _ | refine blk_drew ?_ | refine blk_alloc ?_ _)); exact BK402.out) hb); have n5_ := Aside0.mk (blk_below (g := gb409) (o := .cells #[.int .i64 t403, .int .u64 t404, .slice Ao25 t405.length co25] 25 (0, 0)) (by (with_reducible repeat (first | refine blk_drewN ?_ _ | refine blk_drew ?_ | refine blk_alloc ?_ _)); refine blk_far ?_ NB409_416.out _; (with_reducible repeat (first | refine blk_drewN ?_ _ | refine blk_drew ?_ | refine blk_alloc ?_ _)); refine blk_far ?_ NB409_416.out _; (with_reducible repeat (first | refine blk_drewN ?_ _ | refine blk_drew ?_ | refine blk_alloc ?_ _)); refine blk_far ?_ NB409_416.out _; (with_reducible repeat (first | refine blk_drewN ?_ _ | refine blk_drew ?_ | refine blk_alloc ?_ _)); exact BK409.out) hb); have n6_ := Aside0.mk (blk_below (g := gb416) (o := .cells #[.int .i64 t410, .int .u64 t411, .slice Ao32 t412.length co32] 25 (0, 0)) (by (with_reducible repeat (first | refine blk_drewN ?_ _ | refine blk_drew ?_ | refine blk_alloc ?_ _)); refine blk_put (cs := #[.int .i64 t410, .int .u64 t411, .slice none 0 0]) ?_ 2 _ rfl; (with_reducible repeat (first | refine blk_drewN ?_ _ | refine blk_drew ?_ | refine blk_alloc ?_ _)); refine blk_put (cs := #[.int .i64 t410, .int .u64 0, .slice none 0 0]) ?_ 1 _ rfl; (with_reducible repeat (first | refine blk_drewN ?_ _ | refine blk_drew ?_ | refine blk_alloc ?_ _)); refine blk_put (cs := #[.int .i64 0, .int .u64 0, .slice none 0 0]) ?_ 0 _ rfl; (with_reducible repeat (first | refine blk_drewN ?_ _ | refine blk_drew ?_ | refine blk_alloc ?_ _)); exact BK416.out) hb); have n7_ := Aside0.mk (below_step (by repeat (first | (with_reducible first | exact HB.out | apply below_alloc | apply pw_below_drewN | apply below_drew1 | refine below_set ?_ GE395.out | refine below_set ?_ GE402.out | refine below_set ?_ GE409.out | refine below_set ?_ GE416.out) | exact HB.out)) hb); clear HO401; clear HO407; clear HO414; clear BK395; clear BK402; clear BK409; clear BK416; clear HB; have HO401 := n0_; have HO407 := n1_; have HO414 := n2_; have BK395 := n3_; have BK402 := n4_; have BK409 := n5_; have BK416 := n6_; have HB := n7_; clear n0_ n1_ n2_ n3_ n4_ n5_ n6_ n7_; (try clear hb); (try clear hb2); (try clear hk); (try clear hi)))
      go_meet
      case rel => exact ⟨_, ((t408 != t415)), (by first | rfl | (simp; done) | (simp [*]; done)), H', ⟨by first | omega | exact Nat.le_refl _⟩, ⟨by (with_reducible repeat (first | apply Kd.R_alloc | apply Kd.R_drewN | apply Kd.R_drew)); exact Kd.R_mono HO401.out (fun _ hk => ⟨hk.1.2, hk.2⟩)⟩, ⟨by (with_reducible repeat (first | apply Kd.R_alloc | apply Kd.R_drewN | apply Kd.R_drew)); exact Kd.R_mono HO407.out (fun _ hk => ⟨hk.1.2, hk.2⟩)⟩, ⟨by (with_reducible repeat (first | apply Kd.R_alloc | apply Kd.R_drewN | apply Kd.R_drew)); exact Kd.R_mono HO414.out (fun _ hk => ⟨hk.1.2, hk.2⟩)⟩, ⟨by (with_reducible repeat (first | refine blk_drewN ?_ _ | refine blk_drew ?_ | refine blk_alloc ?_ _)); exact BK395.out⟩, ⟨by (with_reducible repeat (first | refine blk_drewN ?_ _ | refine blk_drew ?_ | refine blk_alloc ?_ _)); exact BK402.out⟩, ⟨by (with_reducible repeat (first | refine blk_drewN ?_ _ | refine blk_drew ?_ | refine blk_alloc ?_ _)); exact BK409.out⟩, ⟨by (with_reducible repeat (first | refine blk_drewN ?_ _ | refine blk_drew ?_ | refine blk_alloc ?_ _)); exact BK416.out⟩, ⟨by repeat (first | (with_reducible first | exact HB.out | apply below_alloc | apply pw_below_drewN | apply below_drew1 | refine below_set ?_ GE395.out | refine below_set ?_ GE402.out | refine below_set ?_ GE409.out | refine below_set ?_ GE416.out) | exact HB.out)⟩⟩
    case rest =>
      clear HC12
      try clear c1
      try clear c2
      try clear p2
      try clear c3
      try clear c4
      try clear c4b0
      try clear c4b1
      try clear c9
      try clear c10
      try clear c14
      try clear c17
      try clear c21
      try clear c22
      try clear c23
      try clear c28
      try clear c29
      try clear c30
      try clear c34
      try clear c35
      try clear c36
      try clear c37
      try clear c39
      try clear c40
      try clear hcz14_0
      try clear hcz14_1
      try clear hcz14_2
      try clear hcz18_0
      try clear hcz18_1
      try clear hcz18_2
      try clear hcz24_0
      try clear hcz24_1
      try clear hcz24_2
      try clear hcz31_0
      try clear hcz31_1
      try clear hcz31_2
      try clear hcz38_0
      try clear hcz38_1
      try clear hcz38_2
      try clear hcz41_0
      try clear hcz41_1
      try clear hcz41_2
      try clear hcz7_0
      try clear hcz7_1
      try clear hcz7_2
      try clear hfz14_0
      try clear hfz14_1
      try clear hfz14_2
      try clear hfz18_0
      try clear hfz18_1
      try clear hfz18_2
      try clear hfz24_0
      try clear hfz24_1
      try clear hfz24_2
      try clear hfz31_0
      try clear hfz31_1
      try clear hfz31_2
      try clear hfz38_0
      try clear hfz38_1
      try clear hfz38_2
      try clear hfz41_0
      try clear hfz41_1
      try clear hfz41_2
      try clear hfz7_0
      try clear hfz7_1
      try clear hfz7_2
      obtain ⟨kq, x47_11, rfl, HA, HJ11, HO_403002, HO_410002, HO_417002, BK395, BK402, BK409, BK416, HB⟩ := hcut
      cases kq with
      | zero => exact absurd HA.out (by simp [L05_RingLooks.j0])
      | succ kj11 =>
        have H := HA.out
        clear HA
        simp only [L05_RingLooks.j0] at H
        by_cases c43 : x47_11 = true
        · subst c43
          have H1 : (some false) = some true := by rw [if_pos rfl] at H; exact H
          clear H
          have H := H1
          clear H1
          exact absurd H (by repeat (first | exact never_none | exact never_false | refine never_ite ?_ ?_ | refine never_bind (fun _ => ?_) | exact L05_RingLooks.j0_d47true _ _ _ _ _ _ _ _ _ | exact L05_RingLooks.j1_d65true _ _ _ _ _ _ _ _ _ | exact L05_RingLooks.j2_d85true _ _ _ _ _ _ _ _ | exact L05_RingLooks.j3_d105true _ _ _ _ _ _ _ _))
        replace c43 := Bool.eq_false_iff.mpr c43
        subst c43
        have H1 : ((ring_Check.f kj11 t397 t398 t399).bind fun bt418 => ((R05_Check.f kj11 a0_0 a0_1 l0_2).bind fun bt420 => (if bt418.1 = bt420.1 then (L05_RingLooks.j1 kj11 a1 a2 (bt418.2 != bt420.2) a0_0 a0_1 l0_2 t397 t398 t399) else (L05_RingLooks.j1 kj11 a1 a2 true a0_0 a0_1 l0_2 t397 t398 t399)))) = some true := by rw [if_neg (show ¬ (false = true) by decide)] at H; exact H
        clear H
        have H := H1
        clear H1
        replace H := Option.bind_eq_some_iff.mp H
        obtain ⟨⟨t418, t419⟩, A440, H⟩ := H
        replace H : ((R05_Check.f kj11 a0_0 a0_1 l0_2).bind fun bt420 => (if t418 = bt420.1 then (L05_RingLooks.j1 kj11 a1 a2 (t419 != bt420.2) a0_0 a0_1 l0_2 t397 t398 t399) else (L05_RingLooks.j1 kj11 a1 a2 true a0_0 a0_1 l0_2 t397 t398 t399))) = some true := H
        have A44 := Aside0.mk A440
        clear A440
        replace H := Option.bind_eq_some_iff.mp H
        obtain ⟨⟨t420, t421⟩, A450, H⟩ := H
        replace H : (if t418 = t420 then (L05_RingLooks.j1 kj11 a1 a2 (t419 != t421) a0_0 a0_1 l0_2 t397 t398 t399) else (L05_RingLooks.j1 kj11 a1 a2 true a0_0 a0_1 l0_2 t397 t398 t399)) = some true := H
        have A45 := Aside0.mk A450
        clear A450
        have HC46 := Aside0.mk H
        clear H
        have hnb47 := NB402_395.out
        have hnc47 := NB395_402.out
        have hnb48 := NB402_409.out
        have hnc48 := NB409_402.out
        have hnb49 := NB402_416.out
        have hnc49 := NB416_402.out
        have hcz50_0 : wc.cell? ⟨gb402, 0, none⟩ = some (.int .i64 t397) := (blk_cell BK402.out 0).trans rfl
        have hcz50_1 : wc.cell? ⟨gb402, 1, none⟩ = some (.int .u64 t398) := (blk_cell BK402.out 1).trans rfl
        have hcz50_2 : wc.cell? ⟨gb402, 2, none⟩ = some (.slice Ao19 t399.length co19) := (blk_cell BK402.out 2).trans rfl
        have hfz50_0 := blk_frozen BK402.out 0
        have hfz50_1 := blk_frozen BK402.out 1
        have hfz50_2 := blk_frozen BK402.out 2
        go_upto_region 10 with (first | ((with_reducible refine gate_callee (f := 23) rfl ?_); refine goesL_ (some 50) rfl rfl Try.func23 (by kernel_rfl) rfl #[.agg #[.int .i64 t397, .int .u64 t398, .slice Ao19 t399.length co19]] rfl (by (try simp only [List.map_toArray, List.map_cons, List.map_nil]); first | done | rfl | (simp only [List.length_drop, List.length_take]; rfl)) ?_; (with_reducible refine (ring_Check.calls kj11 t397 t398 _ _ t399 t418 t419 _ ?side1 ?side2 A44.out).mono ?_); (case side1 => repeat (first | exact (Kd.R_reads' HO_403002.out).2.2 | (with_reducible refine Kd.C_alloc ?_ _) | (with_reducible refine Kd.C_drewN ?_ _) | (with_reducible refine Kd.C_drew ?_))); (case side2 => exact (Kd.R_reads' HO_403002.out).2.1); rintro e w51 ⟨rfl, hb⟩; refine ⟨_, rfl, ?_⟩; have n0_ := Aside0.mk (Kd.R_below (by (with_reducible repeat (first | apply Kd.R_alloc | apply Kd.R_drewN | apply Kd.R_drew)); exact HO_403002.out) hb); have n1_ := Aside0.mk (Kd.R_below (by (with_reducible repeat (first | apply Kd.R_alloc | apply Kd.R_drewN | apply Kd.R_drew)); exact HO_410002.out) hb); have n2_ := Aside0.mk (Kd.R_below (by (with_reducible repeat (first | apply Kd.R_alloc | apply Kd.R_drewN | apply Kd.R_drew)); exact HO_417002.out) hb); have n3_ := Aside0.mk (blk_below (g := gb395) (o := .cells #[.int .i64 a0_0, .int .u64 a0_1, .slice A0_2 l0_2.length c0_2] 25 (0, 0)) (by (with_reducible repeat (first | refine blk_drewN ?_ _ | refine blk_drew ?_ | refine blk_alloc ?_ _)); exact BK395.out) hb); have n4_ := Aside0.mk (blk_below (g := gb402) (o := .cells #[.int .i64 t397, .int .u64 t398, .slice Ao19 t399.length co19] 25 (0, 0)) (by (with_reducible repeat (first | refine blk_drewN ?_ _ | refine blk_drew ?_ | refine blk_alloc ?_ _)); exact BK402.out) hb); have n5_ := Aside0.mk (blk_below (g := gb409) (o := .cells #[.int .i64 t403, .int .u64 t404, .slice Ao25 t405.length co25] 25 (0, 0)) (by (with_reducible repeat (first | refine blk_drewN ?_ _ | refine blk_drew ?_ | refine blk_alloc ?_ _)); exact BK409.out) hb); have n6_ := Aside0.mk (blk_below (g := gb416) (o := .cells #[.int .i64 t410, .int .u64 t411, .slice Ao32 t412.length co32] 25 (0, 0)) (by (with_reducible repeat (first | refine blk_drewN ?_ _ | refine blk_drew ?_ | refine blk_alloc ?_ _)); exact BK416.out) hb); have n7_ := Aside0.mk (below_step (by repeat (first | (with_reducible first | exact HB.out | apply below_alloc | apply pw_below_drewN | apply below_drew1 | refine below_set ?_ GE395.out | refine below_set ?_ GE402.out | refine below_set ?_ GE409.out | refine below_set ?_ GE416.out) | exact HB.out)) hb); clear HO_403002; clear HO_410002; clear HO_417002; clear BK395; clear BK402; clear BK409; clear BK416; clear HB; have HO_403002 := n0_; have HO_410002 := n1_; have HO_417002 := n2_; have BK395 := n3_; have BK402 := n4_; have BK409 := n5_; have BK416 := n6_; have HB := n7_; clear n0_ n1_ n2_ n3_ n4_ n5_ n6_ n7_; (try clear hb); (try clear hb2); (try clear hk); (try clear hi); have hnb52 := NB395_409.out; have hnc52 := NB409_395.out; have hnb53 := NB395_416.out; have hnc53 := NB416_395.out; have hcz54_0 : w51.cell? ⟨gb395, 0, none⟩ = some (.int .i64 a0_0) := (blk_cell BK395.out 0).trans rfl; have hcz54_1 : w51.cell? ⟨gb395, 1, none⟩ = some (.int .u64 a0_1) := (blk_cell BK395.out 1).trans rfl; have hcz54_2 : w51.cell? ⟨gb395, 2, none⟩ = some (.slice A0_2 l0_2.length c0_2) := (blk_cell BK395.out 2).trans rfl; have hfz54_0 := blk_frozen BK395.out 0; have hfz54_1 := blk_frozen BK395.out 1; have hfz54_2 := blk_frozen BK395.out 2) | ((with_reducible refine gate_callee (f := 24) rfl ?_); refine goesL_ (some 55) rfl rfl Try.func24 (by kernel_rfl) rfl #[.agg #[.int .i64 a0_0, .int .u64 a0_1, .slice A0_2 l0_2.length c0_2]] rfl (by (try simp only [List.map_toArray, List.map_cons, List.map_nil]); first | done | rfl | (simp only [List.length_drop, List.length_take]; rfl)) ?_; (with_reducible refine (R05_Check.calls kj11 a0_0 a0_1 _ _ l0_2 t420 t421 _ ?side1 ?side2 A45.out).mono ?_); (case side1 => repeat (first | exact (Kd.C_below HR0_2.out HB.out) | (with_reducible refine Kd.C_alloc ?_ _) | (with_reducible refine Kd.C_drewN ?_ _) | (with_reducible refine Kd.C_drew ?_))); (case side2 => exact HC0_2.out); rintro e w55 ⟨rfl, hb⟩; refine ⟨_, rfl, ?_⟩; have n0_ := Aside0.mk (Kd.R_below (by (with_reducible repeat (first | apply Kd.R_alloc | apply Kd.R_drewN | apply Kd.R_drew)); exact HO_403002.out) hb); have n1_ := Aside0.mk (Kd.R_below (by (with_reducible repeat (first | apply Kd.R_alloc | apply Kd.R_drewN | apply Kd.R_drew)); exact HO_410002.out) hb); have n2_ := Aside0.mk (Kd.R_below (by (with_reducible repeat (first | apply Kd.R_alloc | apply Kd.R_drewN | apply Kd.R_drew)); exact HO_417002.out) hb); have n3_ := Aside0.mk (blk_below (g := gb395) (o := .cells #[.int .i64 a0_0, .int .u64 a0_1, .slice A0_2 l0_2.length c0_2] 25 (0, 0)) (by (with_reducible repeat (first | refine blk_drewN ?_ _ | refine blk_drew ?_ | refine blk_alloc ?_ _)); exact BK395.out) hb); have n4_ := Aside0.mk (blk_below (g := gb402) (o := .cells #[.int .i64 t397, .int .u64 t398, .slice Ao19 t399.length co19] 25 (0, 0)) (by (with_reducible repeat (first | refine blk_drewN ?_ _ | refine blk_drew ?_ | refine blk_alloc ?_ _)); exact BK402.out) hb); have n5_ := Aside0.mk (blk_below (g := gb409) (o := .cells #[.int .i64 t403, .int .u64 t404, .slice Ao25 t405.length co25] 25 (0, 0)) (by (with_reducible repeat (first | refine blk_drewN ?_ _ | refine blk_drew ?_ | refine blk_alloc ?_ _)); exact BK409.out) hb); have n6_ := Aside0.mk (blk_below (g := gb416) (o := .cells #[.int .i64 t410, .int .u64 t411, .slice Ao32 t412.length co32] 25 (0, 0)) (by (with_reducible repeat (first | refine blk_drewN ?_ _ | refine blk_drew ?_ | refine blk_alloc ?_ _)); exact BK416.out) hb); have n7_ := Aside0.mk (below_step (by repeat (first | (with_reducible first | exact HB.out | apply below_alloc | apply pw_below_drewN | apply below_drew1 | refine below_set ?_ GE395.out | refine below_set ?_ GE402.out | refine below_set ?_ GE409.out | refine below_set ?_ GE416.out) | exact HB.out)) hb); clear HO_403002; clear HO_410002; clear HO_417002; clear BK395; clear BK402; clear BK409; clear BK416; clear HB; have HO_403002 := n0_; have HO_410002 := n1_; have HO_417002 := n2_; have BK395 := n3_; have BK402 := n4_; have BK409 := n5_; have BK416 := n6_; have HB := n7_; clear n0_ n1_ n2_ n3_ n4_ n5_ n6_ n7_; (try clear hb); (try clear hb2); (try clear hk); (try clear hi)))
        (try simp only [Act.put, List.setIfInBounds_toArray, List.set_cons_zero, List.set_cons_succ])
        go_cut [65] (fun v65 wc => ∃ (kq : Nat) (x65_45 : Bool), v65 = .bool x65_45 ∧ Aside0 (L05_RingLooks.j1 kq a1 a2 x65_45 a0_0 a0_1 l0_2 t397 t398 t399 = some true) ∧ Aside0 (kq ≤ kj11) ∧ Aside0 (Kd.R k35 35 wc w.heap.size (fun k_ => some k_ ≠ ((.slice Ao25 t405.length co25) : Value).ownBlock ∧ some k_ ≠ ((.slice Ao32 t412.length co32) : Value).ownBlock) (.slice Ao19 t399.length co19) t399) ∧ Aside0 (Kd.R k35 35 wc w.heap.size (fun k_ => some k_ ≠ ((.slice Ao19 t399.length co19) : Value).ownBlock ∧ some k_ ≠ ((.slice Ao32 t412.length co32) : Value).ownBlock) (.slice Ao25 t405.length co25) t405) ∧ Aside0 (Kd.R k35 35 wc w.heap.size (fun k_ => some k_ ≠ ((.slice Ao19 t399.length co19) : Value).ownBlock ∧ some k_ ≠ ((.slice Ao25 t405.length co25) : Value).ownBlock) (.slice Ao32 t412.length co32) t412) ∧ Aside0 (wc.heap[gb395]? = some (.cells #[.int .i64 a0_0, .int .u64 a0_1, (.slice A0_2 l0_2.length c0_2)] 25 (0, 0))) ∧ Aside0 (wc.heap[gb402]? = some (.cells #[.int .i64 t397, .int .u64 t398, (.slice Ao19 t399.length co19)] 25 (0, 0))) ∧ Aside0 (wc.heap[gb409]? = some (.cells #[.int .i64 t403, .int .u64 t404, (.slice Ao25 t405.length co25)] 25 (0, 0))) ∧ Aside0 (wc.heap[gb416]? = some (.cells #[.int .i64 t410, .int .u64 t411, (.slice Ao32 t412.length co32)] 25 (0, 0))) ∧ Aside0 (Below w.heap.size w wc))
        case first =>
          have H := HC46.out
          clear HC46
          by_cases c56 : t418 = t420
          rotate_left
          · rw [if_neg c56] at H
            exact absurd H (by repeat (first | exact never_none | exact never_false | refine never_ite ?_ ?_ | refine never_bind (fun _ => ?_) | exact L05_RingLooks.j0_d47true _ _ _ _ _ _ _ _ _ | exact L05_RingLooks.j1_d65true _ _ _ _ _ _ _ _ _ | exact L05_RingLooks.j2_d85true _ _ _ _ _ _ _ _ | exact L05_RingLooks.j3_d105true _ _ _ _ _ _ _ _))
          rw [if_pos c56] at H
          have c56b0 : (t418 == t420) = true := beq_iff_eq.mpr c56
          have c56b1 : (t418 != t420) = false := bne_eq_false_iff_eq.mpr c56
          clear c56
          (first | rw [c56b0] | (simp only [i64_w, i32_w]; rw [c56b0]) | skip)
          have H' := Aside0.mk H
          clear H
          go_wp2
          go_meet
          case rel => exact ⟨_, ((t419 != t421)), (by first | rfl | (simp; done) | (simp [*]; done)), H', ⟨by have := HJ11.out; first | omega | exact Nat.le_refl _⟩, ⟨by (with_reducible repeat (first | apply Kd.R_alloc | apply Kd.R_drewN | apply Kd.R_drew)); exact HO_403002.out⟩, ⟨by (with_reducible repeat (first | apply Kd.R_alloc | apply Kd.R_drewN | apply Kd.R_drew)); exact HO_410002.out⟩, ⟨by (with_reducible repeat (first | apply Kd.R_alloc | apply Kd.R_drewN | apply Kd.R_drew)); exact HO_417002.out⟩, ⟨by (with_reducible repeat (first | refine blk_drewN ?_ _ | refine blk_drew ?_ | refine blk_alloc ?_ _)); exact BK395.out⟩, ⟨by (with_reducible repeat (first | refine blk_drewN ?_ _ | refine blk_drew ?_ | refine blk_alloc ?_ _)); exact BK402.out⟩, ⟨by (with_reducible repeat (first | refine blk_drewN ?_ _ | refine blk_drew ?_ | refine blk_alloc ?_ _)); exact BK409.out⟩, ⟨by (with_reducible repeat (first | refine blk_drewN ?_ _ | refine blk_drew ?_ | refine blk_alloc ?_ _)); exact BK416.out⟩, ⟨by repeat (first | (with_reducible first | exact HB.out | apply below_alloc | apply pw_below_drewN | apply below_drew1 | refine below_set ?_ GE395.out | refine below_set ?_ GE402.out | refine below_set ?_ GE409.out | refine below_set ?_ GE416.out) | exact HB.out)⟩⟩
        case rest =>
          clear HC46
          try clear c1
          try clear c2
          try clear p2
          try clear c3
          try clear c4
          try clear c4b0
          try clear c4b1
          try clear c5
          try clear c9
          try clear c10
          try clear c14
          try clear c17
          try clear c21
          try clear c22
          try clear c23
          try clear c24
          try clear c28
          try clear c29
          try clear c30
          try clear c34
          try clear c35
          try clear c36
          try clear c37
          try clear c39
          try clear c40
          try clear c43
          try clear c47
          try clear c48
          try clear c49
          try clear c52
          try clear c53
          try clear c56
          try clear c56b0
          try clear c56b1
          try clear hcz14_0
          try clear hcz14_1
          try clear hcz14_2
          try clear hcz18_0
          try clear hcz18_1
          try clear hcz18_2
          try clear hcz24_0
          try clear hcz24_1
          try clear hcz24_2
          try clear hcz31_0
          try clear hcz31_1
          try clear hcz31_2
          try clear hcz38_0
          try clear hcz38_1
          try clear hcz38_2
          try clear hcz41_0
          try clear hcz41_1
          try clear hcz41_2
          try clear hcz50_0
          try clear hcz50_1
          try clear hcz50_2
          try clear hcz54_0
          try clear hcz54_1
          try clear hcz54_2
          try clear hcz7_0
          try clear hcz7_1
          try clear hcz7_2
          try clear hfz14_0
          try clear hfz14_1
          try clear hfz14_2
          try clear hfz18_0
          try clear hfz18_1
          try clear hfz18_2
          try clear hfz24_0
          try clear hfz24_1
          try clear hfz24_2
          try clear hfz31_0
          try clear hfz31_1
          try clear hfz31_2
          try clear hfz38_0
          try clear hfz38_1
          try clear hfz38_2
          try clear hfz41_0
          try clear hfz41_1
          try clear hfz41_2
          try clear hfz50_0
          try clear hfz50_1
          try clear hfz50_2
          try clear hfz54_0
          try clear hfz54_1
          try clear hfz54_2
          try clear hfz7_0
          try clear hfz7_1
          try clear hfz7_2
          try clear p2
          obtain ⟨kq, x65_45, rfl, HA, HJ45, HO_403002, HO_410002, HO_417002, BK395, BK402, BK409, BK416, HB⟩ := hcut
          cases kq with
          | zero => exact absurd HA.out (by simp [L05_RingLooks.j1])
          | succ kj45 =>
            have H := HA.out
            clear HA
            simp only [L05_RingLooks.j1] at H
            by_cases c57 : x65_45 = true
            · subst c57
              have H1 : (some false) = some true := by rw [if_pos rfl] at H; exact H
              clear H
              have H := H1
              clear H1
              exact absurd H (by repeat (first | exact never_none | exact never_false | refine never_ite ?_ ?_ | refine never_bind (fun _ => ?_) | exact L05_RingLooks.j0_d47true _ _ _ _ _ _ _ _ _ | exact L05_RingLooks.j1_d65true _ _ _ _ _ _ _ _ _ | exact L05_RingLooks.j2_d85true _ _ _ _ _ _ _ _ | exact L05_RingLooks.j3_d105true _ _ _ _ _ _ _ _))
            replace c57 := Bool.eq_false_iff.mpr c57
            subst c57
            have H1 : ((ring_First.f t397 t398 t399 a1).bind fun bt422 => ((R05_First.f kj45 a0_0 a0_1 l0_2 a1).bind fun bt426 => (if (!(bt422.1 == bt426.1) || (!(bt422.2.1 == bt426.2.1))) = true then (L05_RingLooks.j2 kj45 a2 true a0_0 a0_1 l0_2 t397 t398 t399) else (L05_RingLooks.j2 kj45 a2 (bt422.2.2 != bt426.2.2) a0_0 a0_1 l0_2 t397 t398 t399)))) = some true := by rw [if_neg (show ¬ (false = true) by decide)] at H; exact H
            clear H
            have H := H1
            clear H1
            replace H := Option.bind_eq_some_iff.mp H
            obtain ⟨⟨t422, t423, t424⟩, A580, H⟩ := H
            replace H : ((R05_First.f kj45 a0_0 a0_1 l0_2 a1).bind fun bt426 => (if (!(t422 == bt426.1) || (!(t423 == bt426.2.1))) = true then (L05_RingLooks.j2 kj45 a2 true a0_0 a0_1 l0_2 t397 t398 t399) else (L05_RingLooks.j2 kj45 a2 (t424 != bt426.2.2) a0_0 a0_1 l0_2 t397 t398 t399))) = some true := H
            have A58 := Aside0.mk A580
            clear A580
            replace H := Option.bind_eq_some_iff.mp H
            obtain ⟨⟨t426, t427, t428⟩, A590, H⟩ := H
            replace H : (if (!(t422 == t426) || (!(t423 == t427))) = true then (L05_RingLooks.j2 kj45 a2 true a0_0 a0_1 l0_2 t397 t398 t399) else (L05_RingLooks.j2 kj45 a2 (t424 != t428) a0_0 a0_1 l0_2 t397 t398 t399)) = some true := H
            have A59 := Aside0.mk A590
            clear A590
            have HC60 := Aside0.mk H
            clear H
            have hnb61 := NB402_395.out
            have hnc61 := NB395_402.out
            have hnb62 := NB402_409.out
            have hnc62 := NB409_402.out
            have hnb63 := NB402_416.out
            have hnc63 := NB416_402.out
            have hcz64_0 : wc.cell? ⟨gb402, 0, none⟩ = some (.int .i64 t397) := (blk_cell BK402.out 0).trans rfl
            have hcz64_1 : wc.cell? ⟨gb402, 1, none⟩ = some (.int .u64 t398) := (blk_cell BK402.out 1).trans rfl
            have hcz64_2 : wc.cell? ⟨gb402, 2, none⟩ = some (.slice Ao19 t399.length co19) := (blk_cell BK402.out 2).trans rfl
            have hfz64_0 := blk_frozen BK402.out 0
            have hfz64_1 := blk_frozen BK402.out 1
            have hfz64_2 := blk_frozen BK402.out 2
            go_upto_region 14 with (first | ((with_reducible refine gate_callee (f := 25) rfl ?_); refine goesL_ (some 69) rfl rfl Try.func25 (by kernel_rfl) rfl #[.agg #[.int .i64 t397, .int .u64 t398, .slice Ao19 t399.length co19], .int .i64 a1] rfl (by (try simp only [List.map_toArray, List.map_cons, List.map_nil]); first | done | rfl | (simp only [List.length_drop, List.length_take]; rfl)) ?_; (with_reducible refine (ring_First.calls t397 t398 _ _ t399 a1 t422 t423 t424 _ ?side1 ?side2 A58.out).mono ?_); (case side1 => repeat (first | exact (Kd.R_reads' HO_403002.out).2.2 | (with_reducible refine Kd.C_alloc ?_ _) | (with_reducible refine Kd.C_drewN ?_ _) | (with_reducible refine Kd.C_drew ?_))); (case side2 => exact (Kd.R_reads' HO_403002.out).2.1); rintro e w65 ⟨rfl, hb⟩; refine ⟨_, rfl, ?_⟩; have n0_ := Aside0.mk (Kd.R_below (by (with_reducible repeat (first | apply Kd.R_alloc | apply Kd.R_drewN | apply Kd.R_drew)); exact HO_403002.out) hb); have n1_ := Aside0.mk (Kd.R_below (by (with_reducible repeat (first | apply Kd.R_alloc | apply Kd.R_drewN | apply Kd.R_drew)); exact HO_410002.out) hb); have n2_ := Aside0.mk (Kd.R_below (by (with_reducible repeat (first | apply Kd.R_alloc | apply Kd.R_drewN | apply Kd.R_drew)); exact HO_417002.out) hb); have n3_ := Aside0.mk (blk_below (g := gb395) (o := .cells #[.int .i64 a0_0, .int .u64 a0_1, .slice A0_2 l0_2.length c0_2] 25 (0, 0)) (by (with_reducible repeat (first | refine blk_drewN ?_ _ | refine blk_drew ?_ | refine blk_alloc ?_ _)); exact BK395.out) hb); have n4_ := Aside0.mk (blk_below (g := gb402) (o := .cells #[.int .i64 t397, .int .u64 t398, .slice Ao19 t399.length co19] 25 (0, 0)) (by (with_reducible repeat (first | refine blk_drewN ?_ _ | refine blk_drew ?_ | refine blk_alloc ?_ _)); exact BK402.out) hb); have n5_ := Aside0.mk (blk_below (g := gb409) (o := .cells #[.int .i64 t403, .int .u64 t404, .slice Ao25 t405.length co25] 25 (0, 0)) (by (with_reducible repeat (first | refine blk_drewN ?_ _ | refine blk_drew ?_ | refine blk_alloc ?_ _)); exact BK409.out) hb); have n6_ := Aside0.mk (blk_below (g := gb416) (o := .cells #[.int .i64 t410, .int .u64 t411, .slice Ao32 t412.length co32] 25 (0, 0)) (by (with_reducible repeat (first | refine blk_drewN ?_ _ | refine blk_drew ?_ | refine blk_alloc ?_ _)); exact BK416.out) hb); have n7_ := Aside0.mk (below_step (by repeat (first | (with_reducible first | exact HB.out | apply below_alloc | apply pw_below_drewN | apply below_drew1 | refine below_set ?_ GE395.out | refine below_set ?_ GE402.out | refine below_set ?_ GE409.out | refine below_set ?_ GE416.out) | exact HB.out)) hb); clear HO_403002; clear HO_410002; clear HO_417002; clear BK395; clear BK402; clear BK409; clear BK416; clear HB; have HO_403002 := n0_; have HO_410002 := n1_; have HO_417002 := n2_; have BK395 := n3_; have BK402 := n4_; have BK409 := n5_; have BK416 := n6_; have HB := n7_; clear n0_ n1_ n2_ n3_ n4_ n5_ n6_ n7_; (try clear hb); (try clear hb2); (try clear hk); (try clear hi)) | ((with_reducible refine gate_dst (N := 14) rfl ?_); refine box_event ?hg (N := 14) ?hd (cs := #[.int .u64 0, .int .i64 0]) (t := 35) ?hr ?_; (case hd => rfl); (case hg => rfl); (case hr => first | (go_simp; done) | (go_simp; rfl)); intro gb425 hg w66 hbox hb; have n0_ := Aside0.mk (Kd.R_below (Kd.R_elderB (by (with_reducible repeat (first | apply Kd.R_alloc | apply Kd.R_drewN | apply Kd.R_drew)); exact HO_403002.out) gb425 (Nat.le_of_eq hg.symm)) hb); have n1_ := Aside0.mk (Kd.R_below (Kd.R_elderB (by (with_reducible repeat (first | apply Kd.R_alloc | apply Kd.R_drewN | apply Kd.R_drew)); exact HO_410002.out) gb425 (Nat.le_of_eq hg.symm)) hb); have n2_ := Aside0.mk (Kd.R_below (Kd.R_elderB (by (with_reducible repeat (first | apply Kd.R_alloc | apply Kd.R_drewN | apply Kd.R_drew)); exact HO_417002.out) gb425 (Nat.le_of_eq hg.symm)) hb); have n3_ := Aside0.mk (blk_below (g := gb395) (o := .cells #[.int .i64 a0_0, .int .u64 a0_1, .slice A0_2 l0_2.length c0_2] 25 (0, 0)) (by (with_reducible repeat (first | refine blk_drewN ?_ _ | refine blk_drew ?_ | refine blk_alloc ?_ _)); exact BK395.out) hb); have n4_ := Aside0.mk (blk_below (g := gb402) (o := .cells #[.int .i64 t397, .int .u64 t398, .slice Ao19 t399.length co19] 25 (0, 0)) (by (with_reducible repeat (first | refine blk_drewN ?_ _ | refine blk_drew ?_ | refine blk_alloc ?_ _)); exact BK402.out) hb); have n5_ := Aside0.mk (blk_below (g := gb409) (o := .cells #[.int .i64 t403, .int .u64 t404, .slice Ao25 t405.length co25] 25 (0, 0)) (by (with_reducible repeat (first | refine blk_drewN ?_ _ | refine blk_drew ?_ | refine blk_alloc ?_ _)); exact BK409.out) hb); have n6_ := Aside0.mk (blk_below (g := gb416) (o := .cells #[.int .i64 t410, .int .u64 t411, .slice Ao32 t412.length co32] 25 (0, 0)) (by (with_reducible repeat (first | refine blk_drewN ?_ _ | refine blk_drew ?_ | refine blk_alloc ?_ _)); exact BK416.out) hb); have n7_ := Aside0.mk (below_step (by repeat (first | (with_reducible first | exact HB.out | apply below_alloc | apply pw_below_drewN | apply below_drew1 | refine below_set ?_ GE395.out | refine below_set ?_ GE402.out | refine below_set ?_ GE409.out | refine below_set ?_ GE416.out) | exact HB.out)) hb); have n8_ := Aside0.mk (hbox); have n9_ := Aside0.mk ((by rw [hg]; exact (below_size (by repeat (first | (with_reducible first | exact HB.out | apply below_alloc | apply pw_below_drewN | apply below_drew1 | refine below_set ?_ GE395.out | refine below_set ?_ GE402.out | refine below_set ?_ GE409.out | refine below_set ?_ GE416.out) | exact HB.out))) : w.heap.size ≤ gb425)); have n10_ := Aside0.mk ((by rw [hg]; exact (below_size (by repeat (first | (with_reducible first | exact HB.out | apply below_alloc | apply pw_below_drewN | apply below_drew1 | refine below_set ?_ GE395.out | refine below_set ?_ GE402.out | refine below_set ?_ GE409.out | refine below_set ?_ GE416.out) | exact HB.out))) : w.heap.size ≤ gb425)); have n11_ := Aside0.mk ((by rw [hg]; exact Nat.ne_of_lt (blk_lt (g := gb395) (o := .cells #[.int .i64 a0_0, .int .u64 a0_1, .slice A0_2 l0_2.length c0_2] 25 (0, 0)) (by (with_reducible repeat (first | refine blk_drewN ?_ _ | refine blk_drew ?_ | refine blk_alloc ?_ _)); exact BK395.out)) : gb395 ≠ gb425)); have n12_ := Aside0.mk ((by rw [hg]; exact Nat.ne_of_gt (blk_lt (g := gb395) (o := .cells #[.int .i64 a0_0, .int .u64 a0_1, .slice A0_2 l0_2.length c0_2] 25 (0, 0)) (by (with_reducible repeat (first | refine blk_drewN ?_ _ | refine blk_drew ?_ | refine blk_alloc ?_ _)); exact BK395.out)) : gb425 ≠ gb395)); have n13_ := Aside0.mk ((by rw [hg]; exact Nat.ne_of_lt (blk_lt (g := gb402) (o := .cells #[.int .i64 t397, .int .u64 t398, .slice Ao19 t399.length co19] 25 (0, 0)) (by (with_reducible repeat (first | refine blk_drewN ?_ _ | refine blk_drew ?_ | refine blk_alloc ?_ _)); exact BK402.out)) : gb402 ≠ gb425)); have n14_ := Aside0.mk ((by rw [hg]; exact Nat.ne_of_gt (blk_lt (g := gb402) (o := .cells #[.int .i64 t397, .int .u64 t398, .slice Ao19 t399.length co19] 25 (0, 0)) (by (with_reducible repeat (first | refine blk_drewN ?_ _ | refine blk_drew ?_ | refine blk_alloc ?_ _)); exact BK402.out)) : gb425 ≠ gb402)); have n15_ := Aside0.mk ((by rw [hg]; exact Nat.ne_of_lt (blk_lt (g := gb409) (o := .cells #[.int .i64 t403, .int .u64 t404, .slice Ao25 t405.length co25] 25 (0, 0)) (by (with_reducible repeat (first | refine blk_drewN ?_ _ | refine blk_drew ?_ | refine blk_alloc ?_ _)); exact BK409.out)) : gb409 ≠ gb425)); have n16_ := Aside0.mk ((by rw [hg]; exact Nat.ne_of_gt (blk_lt (g := gb409) (o := .cells #[.int .i64 t403, .int .u64 t404, .slice Ao25 t405.length co25] 25 (0, 0)) (by (with_reducible repeat (first | refine blk_drewN ?_ _ | refine blk_drew ?_ | refine blk_alloc ?_ _)); exact BK409.out)) : gb425 ≠ gb409)); have n17_ := Aside0.mk ((by rw [hg]; exact Nat.ne_of_lt (blk_lt (g := gb416) (o := .cells #[.int .i64 t410, .int .u64 t411, .slice Ao32 t412.length co32] 25 (0, 0)) (by (with_reducible repeat (first | refine blk_drewN ?_ _ | refine blk_drew ?_ | refine blk_alloc ?_ _)); exact BK416.out)) : gb416 ≠ gb425)); have n18_ := Aside0.mk ((by rw [hg]; exact Nat.ne_of_gt (blk_lt (g := gb416) (o := .cells #[.int .i64 t410, .int .u64 t411, .slice Ao32 t412.length co32] 25 (0, 0)) (by (with_reducible repeat (first | refine blk_drewN ?_ _ | refine blk_drew ?_ | refine blk_alloc ?_ _)); exact BK416.out)) : gb425 ≠ gb416)); clear HO_403002; clear HO_410002; clear HO_417002; clear BK395; clear BK402; clear BK409; clear BK416; clear HB; have HO_403002 := n0_; have HO_410002 := n1_; have HO_417002 := n2_; have BK395 := n3_; have BK402 := n4_; have BK409 := n5_; have BK416 := n6_; have HB := n7_; have BK425 := n8_; have GW425 := n9_; have GE425 := n10_; have NB395_425 := n11_; have NB425_395 := n12_; have NB402_425 := n13_; have NB425_402 := n14_; have NB409_425 := n15_; have NB425_409 := n16_; have NB416_425 := n17_; have NB425_416 := n18_; clear n0_ n1_ n2_ n3_ n4_ n5_ n6_ n7_ n8_ n9_ n10_ n11_ n12_ n13_ n14_ n15_ n16_ n17_ n18_; clear hb hbox hg; have hnb67 := NB425_395.out; have hnc67 := NB395_425.out; have hnb68 := NB425_402.out; have hnc68 := NB402_425.out; have hnb69 := NB425_409.out; have hnc69 := NB409_425.out; have hnb70 := NB425_416.out; have hnc70 := NB416_425.out; have hcz71_0 : w66.cell? ⟨gb425, 0, none⟩ = some (.int .u64 0) := (blk_cell BK425.out 0).trans rfl; have hcz71_1 : w66.cell? ⟨gb425, 1, none⟩ = some (.int .i64 0) := (blk_cell BK425.out 1).trans rfl; have hfz71_0 := blk_frozen BK425.out 0; have hfz71_1 := blk_frozen BK425.out 1; have hnb72 := NB395_409.out; have hnc72 := NB409_395.out; have hnb73 := NB395_416.out; have hnc73 := NB416_395.out; have hcz74_0 : w66.cell? ⟨gb395, 0, none⟩ = some (.int .i64 a0_0) := (blk_cell BK395.out 0).trans rfl; have hcz74_1 : w66.cell? ⟨gb395, 1, none⟩ = some (.int .u64 a0_1) := (blk_cell BK395.out 1).trans rfl; have hcz74_2 : w66.cell? ⟨gb395, 2, none⟩ = some (.slice A0_2 l0_2.length c0_2) := (blk_cell BK395.out 2).trans rfl; have hfz74_0 := blk_frozen BK395.out 0; have hfz74_1 := blk_frozen BK395.out 1; have hfz74_2 := blk_frozen BK395.out 2) | ((with_reducible refine gate_callee (f := 26) rfl ?_); refine goesL_ (some 75) rfl rfl Try.func26 (by kernel_rfl) rfl #[.agg #[.int .i64 a0_0, .int .u64 a0_1, .slice A0_2 l0_2.length c0_2], .int .i64 a1] rfl (by (try simp only [List.map_toArray, List.map_cons, List.map_nil]); first | done | rfl | (simp only [List.length_drop, List.length_take]; rfl)) ?_; (with_reducible refine (R05_First.calls kj45 a0_0 a0_1 _ _ l0_2 a1 t426 t427 t428 _ ?side1 ?side2 A59.out).mono ?_); (case side1 => exact Kd.C_below HR0_2.out (by repeat (first | (with_reducible first | exact HB.out | apply below_alloc | apply pw_below_drewN | apply below_drew1 | refine below_set ?_ GE395.out | refine below_set ?_ GE402.out | refine below_set ?_ GE409.out | refine below_set ?_ GE416.out | refine below_set ?_ GE425.out) | exact HB.out))); (case side2 => exact HC0_2.out); rintro e w75 ⟨rfl, hb⟩; refine ⟨_, rfl, ?_⟩; have n0_ := Aside0.mk (Kd.R_below (by (with_reducible repeat (first | apply Kd.R_alloc | apply Kd.R_drewN | apply Kd.R_drew)); exact (Kd.R_mono (Kd.R_far (p := ⟨gb425, 1, none⟩) (Kd.R_far (p := ⟨gb425, 0, none⟩) (Kd.R_mono HO_403002.out (fun k_ hk => (⟨hk, hk.2⟩ : _ ∧ k_ ≠ gb425))) (fun _ hk => hk.2) (.int .u64 t422)) (fun _ hk => hk.2) (.int .i64 t423)) (fun _ h_ => h_.1))) hb); have n1_ := Aside0.mk (Kd.R_below (by (with_reducible repeat (first | apply Kd.R_alloc | apply Kd.R_drewN | apply Kd.R_drew)); exact (Kd.R_mono (Kd.R_far (p := ⟨gb425, 1, none⟩) (Kd.R_far (p := ⟨gb425, 0, none⟩) (Kd.R_mono HO_410002.out (fun k_ hk => (⟨hk, hk.2⟩ : _ ∧ k_ ≠ gb425))) (fun _ hk => hk.2) (.int .u64 t422)) (fun _ hk => hk.2) (.int .i64 t423)) (fun _ h_ => h_.1))) hb); have n2_ := Aside0.mk (Kd.R_below (by (with_reducible repeat (first | apply Kd.R_alloc | apply Kd.R_drewN | apply Kd.R_drew)); exact (Kd.R_mono (Kd.R_far (p := ⟨gb425, 1, none⟩) (Kd.R_far (p := ⟨gb425, 0, none⟩) (Kd.R_mono HO_417002.out (fun k_ hk => (⟨hk, hk.2⟩ : _ ∧ k_ ≠ gb425))) (fun _ hk => hk.2) (.int .u64 t422)) (fun _ hk => hk.2) (.int .i64 t423)) (fun _ h_ => h_.1))) hb); have n3_ := Aside0.mk (blk_below (g := gb395) (o := .cells #[.int .i64 a0_0, .int .u64 a0_1, .slice A0_2 l0_2.length c0_2] 25 (0, 0)) (by (with_reducible repeat (first | refine blk_drewN ?_ _ | refine blk_drew ?_ | refine blk_alloc ?_ _)); refine blk_far ?_ NB395_425.out _; (with_reducible repeat (first | refine blk_drewN ?_ _ | refine blk_drew ?_ | refine blk_alloc ?_ _)); refine blk_far ?_ NB395_425.out _; (with_reducible repeat (first | refine blk_drewN ?_ _ | refine blk_drew ?_ | refine blk_alloc ?_ _)); exact BK395.out) hb); have n4_ := Aside0.mk (blk_below (g := gb402) (o := .cells #[.int .i64 t397, .int .u64 t398, .slice Ao19 t399.length co19] 25 (0, 0)) (by (with_reducible repeat (first | refine blk_drewN ?_ _ | refine blk_drew ?_ | refine blk_alloc ?_ _)); refine blk_far ?_ NB402_425.out _; (with_reducible repeat (first | refine blk_drewN ?_ _ | refine blk_drew ?_ | refine blk_alloc ?_ _)); refine blk_far ?_ NB402_425.out _; (with_reducible repeat (first | refine blk_drewN ?_ _ | refine blk_drew ?_ | refine blk_alloc ?_ _)); exact BK402.out) hb); have n5_ := Aside0.mk (blk_below (g := gb409) (o := .cells #[.int .i64 t403, .int .u64 t404, .slice Ao25 t405.length co25] 25 (0, 0)) (by (with_reducible repeat (first | refine blk_drewN ?_ _ | refine blk_drew ?_ | refine blk_alloc ?_ _)); refine blk_far ?_ NB409_425.out _; (with_reducible repeat (first | refine blk_drewN ?_ _ | refine blk_drew ?_ | refine blk_alloc ?_ _)); refine blk_far ?_ NB409_425.out _; (with_reducible repeat (first | refine blk_drewN ?_ _ | refine blk_drew ?_ | refine blk_alloc ?_ _)); exact BK409.out) hb); have n6_ := Aside0.mk (blk_below (g := gb416) (o := .cells #[.int .i64 t410, .int .u64 t411, .slice Ao32 t412.length co32] 25 (0, 0)) (by (with_reducible repeat (first | refine blk_drewN ?_ _ | refine blk_drew ?_ | refine blk_alloc ?_ _)); refine blk_far ?_ NB416_425.out _; (with_reducible repeat (first | refine blk_drewN ?_ _ | refine blk_drew ?_ | refine blk_alloc ?_ _)); refine blk_far ?_ NB416_425.out _; (with_reducible repeat (first | refine blk_drewN ?_ _ | refine blk_drew ?_ | refine blk_alloc ?_ _)); exact BK416.out) hb); have n7_ := Aside0.mk (blk_below (g := gb425) (o := .cells #[.int .u64 t422, .int .i64 t423] 35 (0, 0)) (by (with_reducible repeat (first | refine blk_drewN ?_ _ | refine blk_drew ?_ | refine blk_alloc ?_ _)); refine blk_put (cs := #[.int .u64 t422, .int .i64 0]) ?_ 1 _ rfl; (with_reducible repeat (first | refine blk_drewN ?_ _ | refine blk_drew ?_ | refine blk_alloc ?_ _)); refine blk_put (cs := #[.int .u64 0, .int .i64 0]) ?_ 0 _ rfl; (with_reducible repeat (first | refine blk_drewN ?_ _ | refine blk_drew ?_ | refine blk_alloc ?_ _)); exact BK425.out) hb); have n8_ := Aside0.mk (below_step (by repeat (first | (with_reducible first | exact HB.out | apply below_alloc | apply pw_below_drewN | apply below_drew1 | refine below_set ?_ GE395.out | refine below_set ?_ GE402.out | refine below_set ?_ GE409.out | refine below_set ?_ GE416.out | refine below_set ?_ GE425.out) | exact HB.out)) hb); clear HO_403002; clear HO_410002; clear HO_417002; clear BK395; clear BK402; clear BK409; clear BK416; clear BK425; clear HB; have HO_403002 := n0_; have HO_410002 := n1_; have HO_417002 := n2_; have BK395 := n3_; have BK402 := n4_; have BK409 := n5_; have BK416 := n6_; have BK425 := n7_; have HB := n8_; clear n0_ n1_ n2_ n3_ n4_ n5_ n6_ n7_ n8_; (try clear hb); (try clear hb2); (try clear hk); (try clear hi)) | ((with_reducible refine gate_dst (N := 15) rfl ?_); refine box_event ?hg (N := 15) ?hd (cs := #[.int .u64 0, .int .i64 0]) (t := 35) ?hr ?_; (case hd => rfl); (case hg => rfl); (case hr => first | (go_simp; done) | (go_simp; rfl)); intro gb429 hg w76 hbox hb; have n0_ := Aside0.mk (Kd.R_below (Kd.R_elderB (by (with_reducible repeat (first | apply Kd.R_alloc | apply Kd.R_drewN | apply Kd.R_drew)); exact HO_403002.out) gb429 (Nat.le_of_eq hg.symm)) hb); have n1_ := Aside0.mk (Kd.R_below (Kd.R_elderB (by (with_reducible repeat (first | apply Kd.R_alloc | apply Kd.R_drewN | apply Kd.R_drew)); exact HO_410002.out) gb429 (Nat.le_of_eq hg.symm)) hb); have n2_ := Aside0.mk (Kd.R_below (Kd.R_elderB (by (with_reducible repeat (first | apply Kd.R_alloc | apply Kd.R_drewN | apply Kd.R_drew)); exact HO_417002.out) gb429 (Nat.le_of_eq hg.symm)) hb); have n3_ := Aside0.mk (blk_below (g := gb395) (o := .cells #[.int .i64 a0_0, .int .u64 a0_1, .slice A0_2 l0_2.length c0_2] 25 (0, 0)) (by (with_reducible repeat (first | refine blk_drewN ?_ _ | refine blk_drew ?_ | refine blk_alloc ?_ _)); exact BK395.out) hb); have n4_ := Aside0.mk (blk_below (g := gb402) (o := .cells #[.int .i64 t397, .int .u64 t398, .slice Ao19 t399.length co19] 25 (0, 0)) (by (with_reducible repeat (first | refine blk_drewN ?_ _ | refine blk_drew ?_ | refine blk_alloc ?_ _)); exact BK402.out) hb); have n5_ := Aside0.mk (blk_below (g := gb409) (o := .cells #[.int .i64 t403, .int .u64 t404, .slice Ao25 t405.length co25] 25 (0, 0)) (by (with_reducible repeat (first | refine blk_drewN ?_ _ | refine blk_drew ?_ | refine blk_alloc ?_ _)); exact BK409.out) hb); have n6_ := Aside0.mk (blk_below (g := gb416) (o := .cells #[.int .i64 t410, .int .u64 t411, .slice Ao32 t412.length co32] 25 (0, 0)) (by (with_reducible repeat (first | refine blk_drewN ?_ _ | refine blk_drew ?_ | refine blk_alloc ?_ _)); exact BK416.out) hb); have n7_ := Aside0.mk (blk_below (g := gb425) (o := .cells #[.int .u64 t422, .int .i64 t423] 35 (0, 0)) (by (with_reducible repeat (first | refine blk_drewN ?_ _ | refine blk_drew ?_ | refine blk_alloc ?_ _)); exact BK425.out) hb); have n8_ := Aside0.mk (below_step (by repeat (first | (with_reducible first | exact HB.out | apply below_alloc | apply pw_below_drewN | apply below_drew1 | refine below_set ?_ GE395.out | refine below_set ?_ GE402.out | refine below_set ?_ GE409.out | refine below_set ?_ GE416.out | refine below_set ?_ GE425.out) | exact HB.out)) hb); have n9_ := Aside0.mk (hbox); have n10_ := Aside0.mk ((by rw [hg]; exact (below_size (by repeat (first | (with_reducible first | exact HB.out | apply below_alloc | apply pw_below_drewN | apply below_drew1 | refine below_set ?_ GE395.out | refine below_set ?_ GE402.out | refine below_set ?_ GE409.out | refine below_set ?_ GE416.out | refine below_set ?_ GE425.out) | exact HB.out))) : w.heap.size ≤ gb429)); have n11_ := Aside0.mk ((by rw [hg]; exact (below_size (by repeat (first | (with_reducible first | exact HB.out | apply below_alloc | apply pw_below_drewN | apply below_drew1 | refine below_set ?_ GE395.out | refine below_set ?_ GE402.out | refine below_set ?_ GE409.out | refine below_set ?_ GE416.out | refine below_set ?_ GE425.out) | exact HB.out))) : w.heap.size ≤ gb429)); have n12_ := Aside0.mk ((by rw [hg]; exact Nat.ne_of_lt (blk_lt (g := gb395) (o := .cells #[.int .i64 a0_0, .int .u64 a0_1, .slice A0_2 l0_2.length c0_2] 25 (0, 0)) (by (with_reducible repeat (first | refine blk_drewN ?_ _ | refine blk_drew ?_ | refine blk_alloc ?_ _)); exact BK395.out)) : gb395 ≠ gb429)); have n13_ := Aside0.mk ((by rw [hg]; exact Nat.ne_of_gt (blk_lt (g := gb395) (o := .cells #[.int .i64 a0_0, .int .u64 a0_1, .slice A0_2 l0_2.length c0_2] 25 (0, 0)) (by (with_reducible repeat (first | refine blk_drewN ?_ _ | refine blk_drew ?_ | refine blk_alloc ?_ _)); exact BK395.out)) : gb429 ≠ gb395)); have n14_ := Aside0.mk ((by rw [hg]; exact Nat.ne_of_lt (blk_lt (g := gb402) (o := .cells #[.int .i64 t397, .int .u64 t398, .slice Ao19 t399.length co19] 25 (0, 0)) (by (with_reducible repeat (first | refine blk_drewN ?_ _ | refine blk_drew ?_ | refine blk_alloc ?_ _)); exact BK402.out)) : gb402 ≠ gb429)); have n15_ := Aside0.mk ((by rw [hg]; exact Nat.ne_of_gt (blk_lt (g := gb402) (o := .cells #[.int .i64 t397, .int .u64 t398, .slice Ao19 t399.length co19] 25 (0, 0)) (by (with_reducible repeat (first | refine blk_drewN ?_ _ | refine blk_drew ?_ | refine blk_alloc ?_ _)); exact BK402.out)) : gb429 ≠ gb402)); have n16_ := Aside0.mk ((by rw [hg]; exact Nat.ne_of_lt (blk_lt (g := gb409) (o := .cells #[.int .i64 t403, .int .u64 t404, .slice Ao25 t405.length co25] 25 (0, 0)) (by (with_reducible repeat (first | refine blk_drewN ?_ _ | refine blk_drew ?_ | refine blk_alloc ?_ _)); exact BK409.out)) : gb409 ≠ gb429)); have n17_ := Aside0.mk ((by rw [hg]; exact Nat.ne_of_gt (blk_lt (g := gb409) (o := .cells #[.int .i64 t403, .int .u64 t404, .slice Ao25 t405.length co25] 25 (0, 0)) (by (with_reducible repeat (first | refine blk_drewN ?_ _ | refine blk_drew ?_ | refine blk_alloc ?_ _)); exact BK409.out)) : gb429 ≠ gb409)); have n18_ := Aside0.mk ((by rw [hg]; exact Nat.ne_of_lt (blk_lt (g := gb416) (o := .cells #[.int .i64 t410, .int .u64 t411, .slice Ao32 t412.length co32] 25 (0, 0)) (by (with_reducible repeat (first | refine blk_drewN ?_ _ | refine blk_drew ?_ | refine blk_alloc ?_ _)); exact BK416.out)) : gb416 ≠ gb429)); have n19_ := Aside0.mk ((by rw [hg]; exact Nat.ne_of_gt (blk_lt (g := gb416) (o := .cells #[.int .i64 t410, .int .u64 t411, .slice Ao32 t412.length co32] 25 (0, 0)) (by (with_reducible repeat (first | refine blk_drewN ?_ _ | refine blk_drew ?_ | refine blk_alloc ?_ _)); exact BK416.out)) : gb429 ≠ gb416)); have n20_ := Aside0.mk ((by rw [hg]; exact Nat.ne_of_lt (blk_lt (g := gb425) (o := .cells #[.int .u64 t422, .int .i64 t423] 35 (0, 0)) (by (with_reducible repeat (first | refine blk_drewN ?_ _ | refine blk_drew ?_ | refine blk_alloc ?_ _)); exact BK425.out)) : gb425 ≠ gb429)); have n21_ := Aside0.mk ((by rw [hg]; exact Nat.ne_of_gt (blk_lt (g := gb425) (o := .cells #[.int .u64 t422, .int .i64 t423] 35 (0, 0)) (by (with_reducible repeat (first | refine blk_drewN ?_ _ | refine blk_drew ?_ | refine blk_alloc ?_ _)); exact BK425.out)) : gb429 ≠ gb425)); clear HO_403002; clear HO_410002; clear HO_417002; clear BK395; clear BK402; clear BK409; clear BK416; clear BK425; clear HB; have HO_403002 := n0_; have HO_410002 := n1_; have HO_417002 := n2_; have BK395 := n3_; have BK402 := n4_; have BK409 := n5_; have BK416 := n6_; have BK425 := n7_; have HB := n8_; have BK429 := n9_; have GW429 := n10_; have GE429 := n11_; have NB395_429 := n12_; have NB429_395 := n13_; have NB402_429 := n14_; have NB429_402 := n15_; have NB409_429 := n16_; have NB429_409 := n17_; have NB416_429 := n18_; have NB429_416 := n19_; have NB425_429 := n20_; have NB429_425 := n21_; clear n0_ n1_ n2_ n3_ n4_ n5_ n6_ n7_ n8_ n9_ n10_ n11_ n12_ n13_ n14_ n15_ n16_ n17_ n18_ n19_ n20_ n21_; clear hb hbox hg; have hnb77 := NB429_395.out; have hnc77 := NB395_429.out; have hnb78 := NB429_402.out; have hnc78 := NB402_429.out; have hnb79 := NB429_409.out; have hnc79 := NB409_429.out; have hnb80 := NB429_416.out; have hnc80 := NB416_429.out; have hnb81 := NB429_425.out; have hnc81 := NB425_429.out; have hcz82_0 : w76.cell? ⟨gb429, 0, none⟩ = some (.int .u64 0) := (blk_cell BK429.out 0).trans rfl; have hcz82_1 : w76.cell? ⟨gb429, 1, none⟩ = some (.int .i64 0) := (blk_cell BK429.out 1).trans rfl; have hfz82_0 := blk_frozen BK429.out 0; have hfz82_1 := blk_frozen BK429.out 1))
            (try simp only [Act.put, List.setIfInBounds_toArray, List.set_cons_zero, List.set_cons_succ])
            go_cut [85] (fun v85 wc => ∃ (kq : Nat) (x85_59 : Bool), v85 = .bool x85_59 ∧ Aside0 (L05_RingLooks.j2 kq a2 x85_59 a0_0 a0_1 l0_2 t397 t398 t399 = some true) ∧ Aside0 (kq ≤ kj45) ∧ Aside0 (Kd.R k35 35 wc w.heap.size (fun k_ => some k_ ≠ ((.slice Ao25 t405.length co25) : Value).ownBlock ∧ some k_ ≠ ((.slice Ao32 t412.length co32) : Value).ownBlock ∧ k_ ≠ gb425 ∧ k_ ≠ gb429) (.slice Ao19 t399.length co19) t399) ∧ Aside0 (Kd.R k35 35 wc w.heap.size (fun k_ => some k_ ≠ ((.slice Ao19 t399.length co19) : Value).ownBlock ∧ some k_ ≠ ((.slice Ao32 t412.length co32) : Value).ownBlock ∧ k_ ≠ gb425 ∧ k_ ≠ gb429) (.slice Ao25 t405.length co25) t405) ∧ Aside0 (Kd.R k35 35 wc w.heap.size (fun k_ => some k_ ≠ ((.slice Ao19 t399.length co19) : Value).ownBlock ∧ some k_ ≠ ((.slice Ao25 t405.length co25) : Value).ownBlock ∧ k_ ≠ gb425 ∧ k_ ≠ gb429) (.slice Ao32 t412.length co32) t412) ∧ Aside0 (wc.heap[gb395]? = some (.cells #[.int .i64 a0_0, .int .u64 a0_1, (.slice A0_2 l0_2.length c0_2)] 25 (0, 0))) ∧ Aside0 (wc.heap[gb402]? = some (.cells #[.int .i64 t397, .int .u64 t398, (.slice Ao19 t399.length co19)] 25 (0, 0))) ∧ Aside0 (wc.heap[gb409]? = some (.cells #[.int .i64 t403, .int .u64 t404, (.slice Ao25 t405.length co25)] 25 (0, 0))) ∧ Aside0 (wc.heap[gb416]? = some (.cells #[.int .i64 t410, .int .u64 t411, (.slice Ao32 t412.length co32)] 25 (0, 0))) ∧ Aside0 (wc.heap[gb425]? = some (.cells #[.int .u64 t422, .int .i64 t423] 35 (0, 0))) ∧ Aside0 (wc.heap[gb429]? = some (.cells #[.int .u64 t426, .int .i64 t427] 35 (0, 0))) ∧ Aside0 (Below w.heap.size w wc))
            case first =>
              have H := HC60.out
              clear HC60
              by_cases c83 : (!(t422 == t426) || (!(t423 == t427))) = true
              · rw [if_pos c83] at H
                exact absurd H (by repeat (first | exact never_none | exact never_false | refine never_ite ?_ ?_ | refine never_bind (fun _ => ?_) | exact L05_RingLooks.j0_d47true _ _ _ _ _ _ _ _ _ | exact L05_RingLooks.j1_d65true _ _ _ _ _ _ _ _ _ | exact L05_RingLooks.j2_d85true _ _ _ _ _ _ _ _ | exact L05_RingLooks.j3_d105true _ _ _ _ _ _ _ _))
              rw [if_neg c83] at H
              have c83b0 : (!(t422 == t426) || (!(t423 == t427))) = false := by simpa using c83
              clear c83
              (first | rw [c83b0] | (simp only [i64_w, i32_w]; rw [c83b0]) | skip)
              have H' := Aside0.mk H
              clear H
              have hnb84 := NB425_395.out
              have hnc84 := NB395_425.out
              have hnb85 := NB425_402.out
              have hnc85 := NB402_425.out
              have hnb86 := NB425_409.out
              have hnc86 := NB409_425.out
              have hnb87 := NB425_416.out
              have hnc87 := NB416_425.out
              have hnb88 := NB425_429.out
              have hnc88 := NB429_425.out
              have hcz89_0 : w76.cell? ⟨gb425, 0, none⟩ = some (.int .u64 t422) := (blk_cell BK425.out 0).trans rfl
              have hcz89_1 : w76.cell? ⟨gb425, 1, none⟩ = some (.int .i64 t423) := (blk_cell BK425.out 1).trans rfl
              have hfz89_0 := blk_frozen BK425.out 0
              have hfz89_1 := blk_frozen BK425.out 1
              have hnb90 := NB429_395.out
              have hnc90 := NB395_429.out
              have hnb91 := NB429_402.out
              have hnc91 := NB402_429.out
              have hnb92 := NB429_409.out
              have hnc92 := NB409_429.out
              have hnb93 := NB429_416.out
              have hnc93 := NB416_429.out
              have hcz94_0 : w76.cell? ⟨gb429, 0, none⟩ = some (.int .u64 0) := (blk_cell BK429.out 0).trans rfl
              have hcz94_1 : w76.cell? ⟨gb429, 1, none⟩ = some (.int .i64 0) := (blk_cell BK429.out 1).trans rfl
              have hfz94_0 := blk_frozen BK429.out 0
              have hfz94_1 := blk_frozen BK429.out 1
              go_wp2
              go_meet
              case rel => exact ⟨_, ((t424 != t428)), (by first | rfl | (simp; done) | (simp [*]; done)), H', ⟨by have := HJ11.out; have := HJ45.out; first | omega | exact Nat.le_refl _⟩, ⟨by (with_reducible repeat (first | apply Kd.R_alloc | apply Kd.R_drewN | apply Kd.R_drew)); exact Kd.R_mono (Kd.R_far (p := ⟨gb429, 1, none⟩) (Kd.R_far (p := ⟨gb429, 0, none⟩) (Kd.R_mono HO_403002.out (fun k_ hk => (⟨hk, hk.2⟩ : _ ∧ k_ ≠ gb429))) (fun _ hk => hk.2) (.int .u64 t426)) (fun _ hk => hk.2) (.int .i64 t427)) (fun _ hk => ⟨hk.1.1.1.1, ⟨hk.1.1.1.2, ⟨hk.1.1.2, hk.1.2⟩⟩⟩)⟩, ⟨by (with_reducible repeat (first | apply Kd.R_alloc | apply Kd.R_drewN | apply Kd.R_drew)); exact Kd.R_mono (Kd.R_far (p := ⟨gb429, 1, none⟩) (Kd.R_far (p := ⟨gb429, 0, none⟩) (Kd.R_mono HO_410002.out (fun k_ hk => (⟨hk, hk.2⟩ : _ ∧ k_ ≠ gb429))) (fun _ hk => hk.2) (.int .u64 t426)) (fun _ hk => hk.2) (.int .i64 t427)) (fun _ hk => ⟨hk.1.1.1.1, ⟨hk.1.1.1.2, ⟨hk.1.1.2, hk.1.2⟩⟩⟩)⟩, ⟨by (with_reducible repeat (first | apply Kd.R_alloc | apply Kd.R_drewN | apply Kd.R_drew)); exact Kd.R_mono (Kd.R_far (p := ⟨gb429, 1, none⟩) (Kd.R_far (p := ⟨gb429, 0, none⟩) (Kd.R_mono HO_417002.out (fun k_ hk => (⟨hk, hk.2⟩ : _ ∧ k_ ≠ gb429))) (fun _ hk => hk.2) (.int .u64 t426)) (fun _ hk => hk.2) (.int .i64 t427)) (fun _ hk => ⟨hk.1.1.1.1, ⟨hk.1.1.1.2, ⟨hk.1.1.2, hk.1.2⟩⟩⟩)⟩, ⟨by (with_reducible repeat (first | refine blk_drewN ?_ _ | refine blk_drew ?_ | refine blk_alloc ?_ _)); refine blk_far ?_ NB395_429.out _; (with_reducible repeat (first | refine blk_drewN ?_ _ | refine blk_drew ?_ | refine blk_alloc ?_ _)); refine blk_far ?_ NB395_429.out _; (with_reducible repeat (first | refine blk_drewN ?_ _ | refine blk_drew ?_ | refine blk_alloc ?_ _)); exact BK395.out⟩, ⟨by (with_reducible repeat (first | refine blk_drewN ?_ _ | refine blk_drew ?_ | refine blk_alloc ?_ _)); refine blk_far ?_ NB402_429.out _; (with_reducible repeat (first | refine blk_drewN ?_ _ | refine blk_drew ?_ | refine blk_alloc ?_ _)); refine blk_far ?_ NB402_429.out _; (with_reducible repeat (first | refine blk_drewN ?_ _ | refine blk_drew ?_ | refine blk_alloc ?_ _)); exact BK402.out⟩, ⟨by (with_reducible repeat (first | refine blk_drewN ?_ _ | refine blk_drew ?_ | refine blk_alloc ?_ _)); refine blk_far ?_ NB409_429.out _; (with_reducible repeat (first | refine blk_drewN ?_ _ | refine blk_drew ?_ | refine blk_alloc ?_ _)); refine blk_far ?_ NB409_429.out _; (with_reducible repeat (first | refine blk_drewN ?_ _ | refine blk_drew ?_ | refine blk_alloc ?_ _)); exact BK409.out⟩, ⟨by (with_reducible repeat (first | refine blk_drewN ?_ _ | refine blk_drew ?_ | refine blk_alloc ?_ _)); refine blk_far ?_ NB416_429.out _; (with_reducible repeat (first | refine blk_drewN ?_ _ | refine blk_drew ?_ | refine blk_alloc ?_ _)); refine blk_far ?_ NB416_429.out _; (with_reducible repeat (first | refine blk_drewN ?_ _ | refine blk_drew ?_ | refine blk_alloc ?_ _)); exact BK416.out⟩, ⟨by (with_reducible repeat (first | refine blk_drewN ?_ _ | refine blk_drew ?_ | refine blk_alloc ?_ _)); refine blk_far ?_ NB425_429.out _; (with_reducible repeat (first | refine blk_drewN ?_ _ | refine blk_drew ?_ | refine blk_alloc ?_ _)); refine blk_far ?_ NB425_429.out _; (with_reducible repeat (first | refine blk_drewN ?_ _ | refine blk_drew ?_ | refine blk_alloc ?_ _)); exact BK425.out⟩, ⟨by (with_reducible repeat (first | refine blk_drewN ?_ _ | refine blk_drew ?_ | refine blk_alloc ?_ _)); refine blk_put (cs := #[.int .u64 t426, .int .i64 0]) ?_ 1 _ rfl; (with_reducible repeat (first | refine blk_drewN ?_ _ | refine blk_drew ?_ | refine blk_alloc ?_ _)); refine blk_put (cs := #[.int .u64 0, .int .i64 0]) ?_ 0 _ rfl; (with_reducible repeat (first | refine blk_drewN ?_ _ | refine blk_drew ?_ | refine blk_alloc ?_ _)); exact BK429.out⟩, ⟨by repeat (first | (with_reducible first | exact HB.out | apply below_alloc | apply pw_below_drewN | apply below_drew1 | refine below_set ?_ GE395.out | refine below_set ?_ GE402.out | refine below_set ?_ GE409.out | refine below_set ?_ GE416.out | refine below_set ?_ GE425.out | refine below_set ?_ GE429.out) | exact HB.out)⟩⟩
            case rest =>
              clear HC60
              try clear c1
              try clear c2
              try clear p2
              try clear c3
              try clear c4
              try clear c4b0
              try clear c4b1
              try clear c5
              try clear c6
              try clear c7
              try clear c8
              try clear c9
              try clear c10
              try clear c14
              try clear c17
              try clear c21
              try clear c22
              try clear c23
              try clear c24
              try clear c25
              try clear c26
              try clear c28
              try clear c29
              try clear c30
              try clear c34
              try clear c35
              try clear c36
              try clear c37
              try clear c39
              try clear c40
              try clear c43
              try clear c47
              try clear c48
              try clear c49
              try clear c52
              try clear c53
              try clear c56
              try clear c56b0
              try clear c56b1
              try clear c57
              try clear c61
              try clear c62
              try clear c63
              try clear c67
              try clear c68
              try clear c69
              try clear c70
              try clear c72
              try clear c73
              try clear c77
              try clear c78
              try clear c79
              try clear c80
              try clear c81
              try clear c83
              try clear c83b0
              try clear c84
              try clear c85
              try clear c86
              try clear c87
              try clear c88
              try clear c90
              try clear c91
              try clear c92
              try clear c93
              try clear hcz14_0
              try clear hcz14_1
              try clear hcz14_2
              try clear hcz18_0
              try clear hcz18_1
              try clear hcz18_2
              try clear hcz24_0
              try clear hcz24_1
              try clear hcz24_2
              try clear hcz31_0
              try clear hcz31_1
              try clear hcz31_2
              try clear hcz38_0
              try clear hcz38_1
              try clear hcz38_2
              try clear hcz41_0
              try clear hcz41_1
              try clear hcz41_2
              try clear hcz50_0
              try clear hcz50_1
              try clear hcz50_2
              try clear hcz54_0
              try clear hcz54_1
              try clear hcz54_2
              try clear hcz64_0
              try clear hcz64_1
              try clear hcz64_2
              try clear hcz71_0
              try clear hcz71_1
              try clear hcz74_0
              try clear hcz74_1
              try clear hcz74_2
              try clear hcz7_0
              try clear hcz7_1
              try clear hcz7_2
              try clear hcz82_0
              try clear hcz82_1
              try clear hcz89_0
              try clear hcz89_1
              try clear hcz94_0
              try clear hcz94_1
              try clear hfz14_0
              try clear hfz14_1
              try clear hfz14_2
              try clear hfz18_0
              try clear hfz18_1
              try clear hfz18_2
              try clear hfz24_0
              try clear hfz24_1
              try clear hfz24_2
              try clear hfz31_0
              try clear hfz31_1
              try clear hfz31_2
              try clear hfz38_0
              try clear hfz38_1
              try clear hfz38_2
              try clear hfz41_0
              try clear hfz41_1
              try clear hfz41_2
              try clear hfz50_0
              try clear hfz50_1
              try clear hfz50_2
              try clear hfz54_0
              try clear hfz54_1
              try clear hfz54_2
              try clear hfz64_0
              try clear hfz64_1
              try clear hfz64_2
              try clear hfz71_0
              try clear hfz71_1
              try clear hfz74_0
              try clear hfz74_1
              try clear hfz74_2
              try clear hfz7_0
              try clear hfz7_1
              try clear hfz7_2
              try clear hfz82_0
              try clear hfz82_1
              try clear hfz89_0
              try clear hfz89_1
              try clear hfz94_0
              try clear hfz94_1
              try clear p2
              obtain ⟨kq, x85_59, rfl, HA, HJ59, HO_403002, HO_410002, HO_417002, BK395, BK402, BK409, BK416, BK425, BK429, HB⟩ := hcut
              cases kq with
              | zero => exact absurd HA.out (by simp [L05_RingLooks.j2])
              | succ kj59 =>
                have H := HA.out
                clear HA
                simp only [L05_RingLooks.j2] at H
                by_cases c95 : x85_59 = true
                · subst c95
                  have H1 : (some false) = some true := by rw [if_pos rfl] at H; exact H
                  clear H
                  have H := H1
                  clear H1
                  exact absurd H (by repeat (first | exact never_none | exact never_false | refine never_ite ?_ ?_ | refine never_bind (fun _ => ?_) | exact L05_RingLooks.j0_d47true _ _ _ _ _ _ _ _ _ | exact L05_RingLooks.j1_d65true _ _ _ _ _ _ _ _ _ | exact L05_RingLooks.j2_d85true _ _ _ _ _ _ _ _ | exact L05_RingLooks.j3_d105true _ _ _ _ _ _ _ _))
                replace c95 := Bool.eq_false_iff.mpr c95
                subst c95
                have H1 : ((ring_Find.f t397 t398 t399 a2).bind fun bt430 => ((R05_Find.f kj59 a0_0 a0_1 l0_2 a2).bind fun bt432 => (if bt430.1 = bt432.1 then (L05_RingLooks.j3 kj59 a2 (bt430.2 != bt432.2) a0_0 a0_1 l0_2 t397 t398 t399) else (L05_RingLooks.j3 kj59 a2 true a0_0 a0_1 l0_2 t397 t398 t399)))) = some true := by rw [if_neg (show ¬ (false = true) by decide)] at H; exact H
                clear H
                have H := H1
                clear H1
                replace H := Option.bind_eq_some_iff.mp H
                obtain ⟨⟨t430, t431⟩, A960, H⟩ := H
                replace H : ((R05_Find.f kj59 a0_0 a0_1 l0_2 a2).bind fun bt432 => (if t430 = bt432.1 then (L05_RingLooks.j3 kj59 a2 (t431 != bt432.2) a0_0 a0_1 l0_2 t397 t398 t399) else (L05_RingLooks.j3 kj59 a2 true a0_0 a0_1 l0_2 t397 t398 t399))) = some true := H
                have A96 := Aside0.mk A960
                clear A960
                replace H := Option.bind_eq_some_iff.mp H
                obtain ⟨⟨t432, t433⟩, A970, H⟩ := H
                replace H : (if t430 = t432 then (L05_RingLooks.j3 kj59 a2 (t431 != t433) a0_0 a0_1 l0_2 t397 t398 t399) else (L05_RingLooks.j3 kj59 a2 true a0_0 a0_1 l0_2 t397 t398 t399)) = some true := H
                have A97 := Aside0.mk A970
                clear A970
                have HC98 := Aside0.mk H
                clear H
                have hnb99 := NB402_395.out
                have hnc99 := NB395_402.out
                have hnb100 := NB402_409.out
                have hnc100 := NB409_402.out
                have hnb101 := NB402_416.out
                have hnc101 := NB416_402.out
                have hnb102 := NB402_425.out
                have hnc102 := NB425_402.out
                have hnb103 := NB402_429.out
                have hnc103 := NB429_402.out
                have hcz104_0 : wc.cell? ⟨gb402, 0, none⟩ = some (.int .i64 t397) := (blk_cell BK402.out 0).trans rfl
                have hcz104_1 : wc.cell? ⟨gb402, 1, none⟩ = some (.int .u64 t398) := (blk_cell BK402.out 1).trans rfl
                have hcz104_2 : wc.cell? ⟨gb402, 2, none⟩ = some (.slice Ao19 t399.length co19) := (blk_cell BK402.out 2).trans rfl
                have hfz104_0 := blk_frozen BK402.out 0
                have hfz104_1 := blk_frozen BK402.out 1
                have hfz104_2 := blk_frozen BK402.out 2
                go_upto_region 18 with (first | ((with_reducible refine gate_callee (f := 27) rfl ?_); refine goesL_ (some 89) rfl rfl Try.func27 (by kernel_rfl) rfl #[.agg #[.int .i64 t397, .int .u64 t398, .slice Ao19 t399.length co19], .int .u64 a2] rfl (by (try simp only [List.map_toArray, List.map_cons, List.map_nil]); first | done | rfl | (simp only [List.length_drop, List.length_take]; rfl)) ?_; (with_reducible refine (ring_Find.calls t397 t398 _ _ t399 a2 t430 t431 _ ?side1 ?side2 A96.out).mono ?_); (case side1 => repeat (first | exact (Kd.R_reads' HO_403002.out).2.2 | (with_reducible refine Kd.C_alloc ?_ _) | (with_reducible refine Kd.C_drewN ?_ _) | (with_reducible refine Kd.C_drew ?_))); (case side2 => exact (Kd.R_reads' HO_403002.out).2.1); rintro e w105 ⟨rfl, hb⟩; refine ⟨_, rfl, ?_⟩; have n0_ := Aside0.mk (Kd.R_below (by (with_reducible repeat (first | apply Kd.R_alloc | apply Kd.R_drewN | apply Kd.R_drew)); exact HO_403002.out) hb); have n1_ := Aside0.mk (Kd.R_below (by (with_reducible repeat (first | apply Kd.R_alloc | apply Kd.R_drewN | apply Kd.R_drew)); exact HO_410002.out) hb); have n2_ := Aside0.mk (Kd.R_below (by (with_reducible repeat (first | apply Kd.R_alloc | apply Kd.R_drewN | apply Kd.R_drew)); exact HO_417002.out) hb); have n3_ := Aside0.mk (blk_below (g := gb395) (o := .cells #[.int .i64 a0_0, .int .u64 a0_1, .slice A0_2 l0_2.length c0_2] 25 (0, 0)) (by (with_reducible repeat (first | refine blk_drewN ?_ _ | refine blk_drew ?_ | refine blk_alloc ?_ _)); exact BK395.out) hb); have n4_ := Aside0.mk (blk_below (g := gb402) (o := .cells #[.int .i64 t397, .int .u64 t398, .slice Ao19 t399.length co19] 25 (0, 0)) (by (with_reducible repeat (first | refine blk_drewN ?_ _ | refine blk_drew ?_ | refine blk_alloc ?_ _)); exact BK402.out) hb); have n5_ := Aside0.mk (blk_below (g := gb409) (o := .cells #[.int .i64 t403, .int .u64 t404, .slice Ao25 t405.length co25] 25 (0, 0)) (by (with_reducible repeat (first | refine blk_drewN ?_ _ | refine blk_drew ?_ | refine blk_alloc ?_ _)); exact BK409.out) hb); have n6_ := Aside0.mk (blk_below (g := gb416) (o := .cells #[.int .i64 t410, .int .u64 t411, .slice Ao32 t412.length co32] 25 (0, 0)) (by (with_reducible repeat (first | refine blk_drewN ?_ _ | refine blk_drew ?_ | refine blk_alloc ?_ _)); exact BK416.out) hb); have n7_ := Aside0.mk (blk_below (g := gb425) (o := .cells #[.int .u64 t422, .int .i64 t423] 35 (0, 0)) (by (with_reducible repeat (first | refine blk_drewN ?_ _ | refine blk_drew ?_ | refine blk_alloc ?_ _)); exact BK425.out) hb); have n8_ := Aside0.mk (blk_below (g := gb429) (o := .cells #[.int .u64 t426, .int .i64 t427] 35 (0, 0)) (by (with_reducible repeat (first | refine blk_drewN ?_ _ | refine blk_drew ?_ | refine blk_alloc ?_ _)); exact BK429.out) hb); have n9_ := Aside0.mk (below_step (by repeat (first | (with_reducible first | exact HB.out | apply below_alloc | apply pw_below_drewN | apply below_drew1 | refine below_set ?_ GE395.out | refine below_set ?_ GE402.out | refine below_set ?_ GE409.out | refine below_set ?_ GE416.out | refine below_set ?_ GE425.out | refine below_set ?_ GE429.out) | exact HB.out)) hb); clear HO_403002; clear HO_410002; clear HO_417002; clear BK395; clear BK402; clear BK409; clear BK416; clear BK425; clear BK429; clear HB; have HO_403002 := n0_; have HO_410002 := n1_; have HO_417002 := n2_; have BK395 := n3_; have BK402 := n4_; have BK409 := n5_; have BK416 := n6_; have BK425 := n7_; have BK429 := n8_; have HB := n9_; clear n0_ n1_ n2_ n3_ n4_ n5_ n6_ n7_ n8_ n9_; (try clear hb); (try clear hb2); (try clear hk); (try clear hi); have hnb106 := NB395_409.out; have hnc106 := NB409_395.out; have hnb107 := NB395_416.out; have hnc107 := NB416_395.out; have hnb108 := NB395_425.out; have hnc108 := NB425_395.out; have hnb109 := NB395_429.out; have hnc109 := NB429_395.out; have hcz110_0 : w105.cell? ⟨gb395, 0, none⟩ = some (.int .i64 a0_0) := (blk_cell BK395.out 0).trans rfl; have hcz110_1 : w105.cell? ⟨gb395, 1, none⟩ = some (.int .u64 a0_1) := (blk_cell BK395.out 1).trans rfl; have hcz110_2 : w105.cell? ⟨gb395, 2, none⟩ = some (.slice A0_2 l0_2.length c0_2) := (blk_cell BK395.out 2).trans rfl; have hfz110_0 := blk_frozen BK395.out 0; have hfz110_1 := blk_frozen BK395.out 1; have hfz110_2 := blk_frozen BK395.out 2) | ((with_reducible refine gate_callee (f := 28) rfl ?_); refine goesL_ (some 95) rfl rfl Try.func28 (by kernel_rfl) rfl #[.agg #[.int .i64 a0_0, .int .u64 a0_1, .slice A0_2 l0_2.length c0_2], .int .u64 a2] rfl (by (try simp only [List.map_toArray, List.map_cons, List.map_nil]); first | done | rfl | (simp only [List.length_drop, List.length_take]; rfl)) ?_; (with_reducible refine (R05_Find.calls kj59 a0_0 a0_1 _ _ l0_2 a2 t432 t433 _ ?side1 ?side2 A97.out).mono ?_); (case side1 => repeat (first | exact (Kd.C_below HR0_2.out HB.out) | (with_reducible refine Kd.C_alloc ?_ _) | (with_reducible refine Kd.C_drewN ?_ _) | (with_reducible refine Kd.C_drew ?_))); (case side2 => exact HC0_2.out); rintro e w111 ⟨rfl, hb⟩; refine ⟨_, rfl, ?_⟩; have n0_ := Aside0.mk (Kd.R_below (by (with_reducible repeat (first | apply Kd.R_alloc | apply Kd.R_drewN | apply Kd.R_drew)); exact HO_403002.out) hb); have n1_ := Aside0.mk (Kd.R_below (by (with_reducible repeat (first | apply Kd.R_alloc | apply Kd.R_drewN | apply Kd.R_drew)); exact HO_410002.out) hb); have n2_ := Aside0.mk (Kd.R_below (by (with_reducible repeat (first | apply Kd.R_alloc | apply Kd.R_drewN | apply Kd.R_drew)); exact HO_417002.out) hb); have n3_ := Aside0.mk (blk_below (g := gb395) (o := .cells #[.int .i64 a0_0, .int .u64 a0_1, .slice A0_2 l0_2.length c0_2] 25 (0, 0)) (by (with_reducible repeat (first | refine blk_drewN ?_ _ | refine blk_drew ?_ | refine blk_alloc ?_ _)); exact BK395.out) hb); have n4_ := Aside0.mk (blk_below (g := gb402) (o := .cells #[.int .i64 t397, .int .u64 t398, .slice Ao19 t399.length co19] 25 (0, 0)) (by (with_reducible repeat (first | refine blk_drewN ?_ _ | refine blk_drew ?_ | refine blk_alloc ?_ _)); exact BK402.out) hb); have n5_ := Aside0.mk (blk_below (g := gb409) (o := .cells #[.int .i64 t403, .int .u64 t404, .slice Ao25 t405.length co25] 25 (0, 0)) (by (with_reducible repeat (first | refine blk_drewN ?_ _ | refine blk_drew ?_ | refine blk_alloc ?_ _)); exact BK409.out) hb); have n6_ := Aside0.mk (blk_below (g := gb416) (o := .cells #[.int .i64 t410, .int .u64 t411, .slice Ao32 t412.length co32] 25 (0, 0)) (by (with_reducible repeat (first | refine blk_drewN ?_ _ | refine blk_drew ?_ | refine blk_alloc ?_ _)); exact BK416.out) hb); have n7_ := Aside0.mk (blk_below (g := gb425) (o := .cells #[.int .u64 t422, .int .i64 t423] 35 (0, 0)) (by (with_reducible repeat (first | refine blk_drewN ?_ _ | refine blk_drew ?_ | refine blk_alloc ?_ _)); exact BK425.out) hb); have n8_ := Aside0.mk (blk_below (g := gb429) (o := .cells #[.int .u64 t426, .int .i64 t427] 35 (0, 0)) (by (with_reducible repeat (first | refine blk_drewN ?_ _ | refine blk_drew ?_ | refine blk_alloc ?_ _)); exact BK429.out) hb); have n9_ := Aside0.mk (below_step (by repeat (first | (with_reducible first | exact HB.out | apply below_alloc | apply pw_below_drewN | apply below_drew1 | refine below_set ?_ GE395.out | refine below_set ?_ GE402.out | refine below_set ?_ GE409.out | refine below_set ?_ GE416.out | refine below_set ?_ GE425.out | refine below_set ?_ GE429.out) | exact HB.out)) hb); clear HO_403002; clear HO_410002; clear HO_417002; clear BK395; clear BK402; clear BK409; clear BK416; clear BK425; clear BK429; clear HB; have HO_403002 := n0_; have HO_410002 := n1_; have HO_417002 := n2_; have BK395 := n3_; have BK402 := n4_; have BK409 := n5_; have BK416 := n6_; have BK425 := n7_; have BK429 := n8_; have HB := n9_; clear n0_ n1_ n2_ n3_ n4_ n5_ n6_ n7_ n8_ n9_; (try clear hb); (try clear hb2); (try clear hk); (try clear hi)))
                (try simp only [Act.put, List.setIfInBounds_toArray, List.set_cons_zero, List.set_cons_succ])
                go_cut [105] (fun v105 wc => ∃ (kq : Nat) (x105_97 : Bool), v105 = .bool x105_97 ∧ Aside0 (L05_RingLooks.j3 kq a2 x105_97 a0_0 a0_1 l0_2 t397 t398 t399 = some true) ∧ Aside0 (kq ≤ kj59) ∧ Aside0 (Kd.R k35 35 wc w.heap.size (fun k_ => some k_ ≠ ((.slice Ao25 t405.length co25) : Value).ownBlock ∧ some k_ ≠ ((.slice Ao32 t412.length co32) : Value).ownBlock ∧ k_ ≠ gb425 ∧ k_ ≠ gb429) (.slice Ao19 t399.length co19) t399) ∧ Aside0 (Kd.R k35 35 wc w.heap.size (fun k_ => some k_ ≠ ((.slice Ao19 t399.length co19) : Value).ownBlock ∧ some k_ ≠ ((.slice Ao32 t412.length co32) : Value).ownBlock ∧ k_ ≠ gb425 ∧ k_ ≠ gb429) (.slice Ao25 t405.length co25) t405) ∧ Aside0 (Kd.R k35 35 wc w.heap.size (fun k_ => some k_ ≠ ((.slice Ao19 t399.length co19) : Value).ownBlock ∧ some k_ ≠ ((.slice Ao25 t405.length co25) : Value).ownBlock ∧ k_ ≠ gb425 ∧ k_ ≠ gb429) (.slice Ao32 t412.length co32) t412) ∧ Aside0 (wc.heap[gb395]? = some (.cells #[.int .i64 a0_0, .int .u64 a0_1, (.slice A0_2 l0_2.length c0_2)] 25 (0, 0))) ∧ Aside0 (wc.heap[gb402]? = some (.cells #[.int .i64 t397, .int .u64 t398, (.slice Ao19 t399.length co19)] 25 (0, 0))) ∧ Aside0 (wc.heap[gb409]? = some (.cells #[.int .i64 t403, .int .u64 t404, (.slice Ao25 t405.length co25)] 25 (0, 0))) ∧ Aside0 (wc.heap[gb416]? = some (.cells #[.int .i64 t410, .int .u64 t411, (.slice Ao32 t412.length co32)] 25 (0, 0))) ∧ Aside0 (wc.heap[gb425]? = some (.cells #[.int .u64 t422, .int .i64 t423] 35 (0, 0))) ∧ Aside0 (wc.heap[gb429]? = some (.cells #[.int .u64 t426, .int .i64 t427] 35 (0, 0))) ∧ Aside0 (Below w.heap.size w wc))
                case first =>
                  have H := HC98.out
                  clear HC98
                  by_cases c112 : t430 = t432
                  rotate_left
                  · rw [if_neg c112] at H
                    exact absurd H (by repeat (first | exact never_none | exact never_false | refine never_ite ?_ ?_ | refine never_bind (fun _ => ?_) | exact L05_RingLooks.j0_d47true _ _ _ _ _ _ _ _ _ | exact L05_RingLooks.j1_d65true _ _ _ _ _ _ _ _ _ | exact L05_RingLooks.j2_d85true _ _ _ _ _ _ _ _ | exact L05_RingLooks.j3_d105true _ _ _ _ _ _ _ _))
                  rw [if_pos c112] at H
                  have c112b0 : (t430 == t432) = true := beq_iff_eq.mpr c112
                  have c112b1 : (t430 != t432) = false := bne_eq_false_iff_eq.mpr c112
                  clear c112
                  (first | rw [c112b0] | (simp only [i64_w, i32_w]; rw [c112b0]) | skip)
                  have H' := Aside0.mk H
                  clear H
                  go_wp2
                  go_meet
                  case rel => exact ⟨_, ((t431 != t433)), (by first | rfl | (simp; done) | (simp [*]; done)), H', ⟨by have := HJ11.out; have := HJ45.out; have := HJ59.out; first | omega | exact Nat.le_refl _⟩, ⟨by (with_reducible repeat (first | apply Kd.R_alloc | apply Kd.R_drewN | apply Kd.R_drew)); exact HO_403002.out⟩, ⟨by (with_reducible repeat (first | apply Kd.R_alloc | apply Kd.R_drewN | apply Kd.R_drew)); exact HO_410002.out⟩, ⟨by (with_reducible repeat (first | apply Kd.R_alloc | apply Kd.R_drewN | apply Kd.R_drew)); exact HO_417002.out⟩, ⟨by (with_reducible repeat (first | refine blk_drewN ?_ _ | refine blk_drew ?_ | refine blk_alloc ?_ _)); exact BK395.out⟩, ⟨by (with_reducible repeat (first | refine blk_drewN ?_ _ | refine blk_drew ?_ | refine blk_alloc ?_ _)); exact BK402.out⟩, ⟨by (with_reducible repeat (first | refine blk_drewN ?_ _ | refine blk_drew ?_ | refine blk_alloc ?_ _)); exact BK409.out⟩, ⟨by (with_reducible repeat (first | refine blk_drewN ?_ _ | refine blk_drew ?_ | refine blk_alloc ?_ _)); exact BK416.out⟩, ⟨by (with_reducible repeat (first | refine blk_drewN ?_ _ | refine blk_drew ?_ | refine blk_alloc ?_ _)); exact BK425.out⟩, ⟨by (with_reducible repeat (first | refine blk_drewN ?_ _ | refine blk_drew ?_ | refine blk_alloc ?_ _)); exact BK429.out⟩, ⟨by repeat (first | (with_reducible first | exact HB.out | apply below_alloc | apply pw_below_drewN | apply below_drew1 | refine below_set ?_ GE395.out | refine below_set ?_ GE402.out | refine below_set ?_ GE409.out | refine below_set ?_ GE416.out | refine below_set ?_ GE425.out | refine below_set ?_ GE429.out) | exact HB.out)⟩⟩
                case rest =>
                  clear HC98
                  try clear c1
                  try clear c2
                  try clear p2
                  try clear c3
                  try clear c4
                  try clear c4b0
                  try clear c4b1
                  try clear c5
                  try clear c6
                  try clear c7
                  try clear c8
                  try clear c9
                  try clear c10
                  try clear c11
                  try clear c14
                  try clear c17
                  try clear c21
                  try clear c22
                  try clear c23
                  try clear c24
                  try clear c25
                  try clear c26
                  try clear c27
                  try clear c28
                  try clear c29
                  try clear c30
                  try clear c34
                  try clear c35
                  try clear c36
                  try clear c37
                  try clear c39
                  try clear c40
                  try clear c43
                  try clear c47
                  try clear c48
                  try clear c49
                  try clear c52
                  try clear c53
                  try clear c56
                  try clear c56b0
                  try clear c56b1
                  try clear c57
                  try clear c61
                  try clear c62
                  try clear c63
                  try clear c67
                  try clear c68
                  try clear c69
                  try clear c70
                  try clear c72
                  try clear c73
                  try clear c77
                  try clear c78
                  try clear c79
                  try clear c80
                  try clear c81
                  try clear c83
                  try clear c83b0
                  try clear c84
                  try clear c85
                  try clear c86
                  try clear c87
                  try clear c88
                  try clear c90
                  try clear c91
                  try clear c92
                  try clear c93
                  try clear c95
                  try clear c99
                  try clear c100
                  try clear c101
                  try clear c102
                  try clear c103
                  try clear c106
                  try clear c107
                  try clear c108
                  try clear c109
                  try clear c112
                  try clear c112b0
                  try clear c112b1
                  try clear hcz104_0
                  try clear hcz104_1
                  try clear hcz104_2
                  try clear hcz110_0
                  try clear hcz110_1
                  try clear hcz110_2
                  try clear hcz14_0
                  try clear hcz14_1
                  try clear hcz14_2
                  try clear hcz18_0
                  try clear hcz18_1
                  try clear hcz18_2
                  try clear hcz24_0
                  try clear hcz24_1
                  try clear hcz24_2
                  try clear hcz31_0
                  try clear hcz31_1
                  try clear hcz31_2
                  try clear hcz38_0
                  try clear hcz38_1
                  try clear hcz38_2
                  try clear hcz41_0
                  try clear hcz41_1
                  try clear hcz41_2
                  try clear hcz50_0
                  try clear hcz50_1
                  try clear hcz50_2
                  try clear hcz54_0
                  try clear hcz54_1
                  try clear hcz54_2
                  try clear hcz64_0
                  try clear hcz64_1
                  try clear hcz64_2
                  try clear hcz71_0
                  try clear hcz71_1
                  try clear hcz74_0
                  try clear hcz74_1
                  try clear hcz74_2
                  try clear hcz7_0
                  try clear hcz7_1
                  try clear hcz7_2
                  try clear hcz82_0
                  try clear hcz82_1
                  try clear hcz89_0
                  try clear hcz89_1
                  try clear hcz94_0
                  try clear hcz94_1
                  try clear hfz104_0
                  try clear hfz104_1
                  try clear hfz104_2
                  try clear hfz110_0
                  try clear hfz110_1
                  try clear hfz110_2
                  try clear hfz14_0
                  try clear hfz14_1
                  try clear hfz14_2
                  try clear hfz18_0
                  try clear hfz18_1
                  try clear hfz18_2
                  try clear hfz24_0
                  try clear hfz24_1
                  try clear hfz24_2
                  try clear hfz31_0
                  try clear hfz31_1
                  try clear hfz31_2
                  try clear hfz38_0
                  try clear hfz38_1
                  try clear hfz38_2
                  try clear hfz41_0
                  try clear hfz41_1
                  try clear hfz41_2
                  try clear hfz50_0
                  try clear hfz50_1
                  try clear hfz50_2
                  try clear hfz54_0
                  try clear hfz54_1
                  try clear hfz54_2
                  try clear hfz64_0
                  try clear hfz64_1
                  try clear hfz64_2
                  try clear hfz71_0
                  try clear hfz71_1
                  try clear hfz74_0
                  try clear hfz74_1
                  try clear hfz74_2
                  try clear hfz7_0
                  try clear hfz7_1
                  try clear hfz7_2
                  try clear hfz82_0
                  try clear hfz82_1
                  try clear hfz89_0
                  try clear hfz89_1
                  try clear hfz94_0
                  try clear hfz94_1
                  try clear p2
                  obtain ⟨kq, x105_97, rfl, HA, HJ97, HO_403002, HO_410002, HO_417002, BK395, BK402, BK409, BK416, BK425, BK429, HB⟩ := hcut
                  cases kq with
                  | zero => exact absurd HA.out (by simp [L05_RingLooks.j3])
                  | succ kj97 =>
                    have H := HA.out
                    clear HA
                    simp only [L05_RingLooks.j3] at H
                    by_cases c113 : x105_97 = true
                    · subst c113
                      have H1 : (some false) = some true := by rw [if_pos rfl] at H; exact H
                      clear H
                      have H := H1
                      clear H1
                      exact absurd H (by repeat (first | exact never_none | exact never_false | refine never_ite ?_ ?_ | refine never_bind (fun _ => ?_) | exact L05_RingLooks.j0_d47true _ _ _ _ _ _ _ _ _ | exact L05_RingLooks.j1_d65true _ _ _ _ _ _ _ _ _ | exact L05_RingLooks.j2_d85true _ _ _ _ _ _ _ _ | exact L05_RingLooks.j3_d105true _ _ _ _ _ _ _ _))
                    replace c113 := Bool.eq_false_iff.mpr c113
                    subst c113
                    have H1 : ((ring_Age.f t397 t398 t399 a2).bind fun bt434 => ((R05_Age.f kj97 a0_0 a0_1 l0_2 a2).bind fun bt436 => ((ring_Rest.f kj97 t397 t398 t399).bind fun bt438 => ((R05_Rest.f kj97 a0_0 a0_1 l0_2).bind fun bt440 => (if bt434.1 = bt436.1 then (if bt434.2 = bt436.2 then (if bt438.1 = bt440.1 then (if bt438.2 = bt440.2 then ((K_SameRing.f kj97 t397 t398 t399 a0_0 a0_1 l0_2).bind fun t442 => (if t442 = true then ((L05_awake.f kj97).bind fun t443 => (some t443)) else (some false))) else (some false)) else (some false)) else (some false)) else (some false)))))) = some true := by rw [if_neg (show ¬ (false = true) by decide)] at H; exact H
                    clear H
                    have H := H1
                    clear H1
                    replace H := Option.bind_eq_some_iff.mp H
                    obtain ⟨⟨t434, t435⟩, A1140, H⟩ := H
                    replace H : ((R05_Age.f kj97 a0_0 a0_1 l0_2 a2).bind fun bt436 => ((ring_Rest.f kj97 t397 t398 t399).bind fun bt438 => ((R05_Rest.f kj97 a0_0 a0_1 l0_2).bind fun bt440 => (if t434 = bt436.1 then (if t435 = bt436.2 then (if bt438.1 = bt440.1 then (if bt438.2 = bt440.2 then ((K_SameRing.f kj97 t397 t398 t399 a0_0 a0_1 l0_2).bind fun t442 => (if t442 = true then ((L05_awake.f kj97).bind fun t443 => (some t443)) else (some false))) else (some false)) else (some false)) else (some false)) else (some false))))) = some true := H
                    have A114 := Aside0.mk A1140
                    clear A1140
                    replace H := Option.bind_eq_some_iff.mp H
                    obtain ⟨⟨t436, t437⟩, A1150, H⟩ := H
                    replace H : ((ring_Rest.f kj97 t397 t398 t399).bind fun bt438 => ((R05_Rest.f kj97 a0_0 a0_1 l0_2).bind fun bt440 => (if t434 = t436 then (if t435 = t437 then (if bt438.1 = bt440.1 then (if bt438.2 = bt440.2 then ((K_SameRing.f kj97 t397 t398 t399 a0_0 a0_1 l0_2).bind fun t442 => (if t442 = true then ((L05_awake.f kj97).bind fun t443 => (some t443)) else (some false))) else (some false)) else (some false)) else (some false)) else (some false)))) = some true := H
                    have A115 := Aside0.mk A1150
                    clear A1150
                    replace H := Option.bind_eq_some_iff.mp H
                    obtain ⟨⟨t438, t439⟩, A1160, H⟩ := H
                    replace H : ((R05_Rest.f kj97 a0_0 a0_1 l0_2).bind fun bt440 => (if t434 = t436 then (if t435 = t437 then (if t438 = bt440.1 then (if t439 = bt440.2 then ((K_SameRing.f kj97 t397 t398 t399 a0_0 a0_1 l0_2).bind fun t442 => (if t442 = true then ((L05_awake.f kj97).bind fun t443 => (some t443)) else (some false))) else (some false)) else (some false)) else (some false)) else (some false))) = some true := H
                    have A116 := Aside0.mk A1160
                    clear A1160
                    replace H := Option.bind_eq_some_iff.mp H
                    obtain ⟨⟨t440, t441⟩, A1170, H⟩ := H
                    replace H : (if t434 = t436 then (if t435 = t437 then (if t438 = t440 then (if t439 = t441 then ((K_SameRing.f kj97 t397 t398 t399 a0_0 a0_1 l0_2).bind fun t442 => (if t442 = true then ((L05_awake.f kj97).bind fun t443 => (some t443)) else (some false))) else (some false)) else (some false)) else (some false)) else (some false)) = some true := H
                    have A117 := Aside0.mk A1170
                    clear A1170
                    by_cases c118 : t434 = t436
                    rotate_left
                    · rw [if_neg c118] at H
                      exact absurd H (by repeat (first | exact never_none | exact never_false | refine never_ite ?_ ?_ | refine never_bind (fun _ => ?_) | exact L05_RingLooks.j0_d47true _ _ _ _ _ _ _ _ _ | exact L05_RingLooks.j1_d65true _ _ _ _ _ _ _ _ _ | exact L05_RingLooks.j2_d85true _ _ _ _ _ _ _ _ | exact L05_RingLooks.j3_d105true _ _ _ _ _ _ _ _))
                    rw [if_pos c118] at H
                    have c118b0 : (t434 == t436) = true := beq_iff_eq.mpr c118
                    have c118b1 : (t434 != t436) = false := bne_eq_false_iff_eq.mpr c118
                    clear c118
                    by_cases c119 : t435 = t437
                    rotate_left
                    · rw [if_neg c119] at H
                      exact absurd H (by repeat (first | exact never_none | exact never_false | refine never_ite ?_ ?_ | refine never_bind (fun _ => ?_) | exact L05_RingLooks.j0_d47true _ _ _ _ _ _ _ _ _ | exact L05_RingLooks.j1_d65true _ _ _ _ _ _ _ _ _ | exact L05_RingLooks.j2_d85true _ _ _ _ _ _ _ _ | exact L05_RingLooks.j3_d105true _ _ _ _ _ _ _ _))
                    rw [if_pos c119] at H
                    have c119b0 : (t435 == t437) = true := beq_iff_eq.mpr c119
                    have c119b1 : (t435 != t437) = false := bne_eq_false_iff_eq.mpr c119
                    clear c119
                    by_cases c120 : t438 = t440
                    rotate_left
                    · rw [if_neg c120] at H
                      exact absurd H (by repeat (first | exact never_none | exact never_false | refine never_ite ?_ ?_ | refine never_bind (fun _ => ?_) | exact L05_RingLooks.j0_d47true _ _ _ _ _ _ _ _ _ | exact L05_RingLooks.j1_d65true _ _ _ _ _ _ _ _ _ | exact L05_RingLooks.j2_d85true _ _ _ _ _ _ _ _ | exact L05_RingLooks.j3_d105true _ _ _ _ _ _ _ _))
                    rw [if_pos c120] at H
                    have c120b0 : (t438 == t440) = true := beq_iff_eq.mpr c120
                    have c120b1 : (t438 != t440) = false := bne_eq_false_iff_eq.mpr c120
                    clear c120
                    by_cases c121 : t439 = t441
                    rotate_left
                    · rw [if_neg c121] at H
                      exact absurd H (by repeat (first | exact never_none | exact never_false | refine never_ite ?_ ?_ | refine never_bind (fun _ => ?_) | exact L05_RingLooks.j0_d47true _ _ _ _ _ _ _ _ _ | exact L05_RingLooks.j1_d65true _ _ _ _ _ _ _ _ _ | exact L05_RingLooks.j2_d85true _ _ _ _ _ _ _ _ | exact L05_RingLooks.j3_d105true _ _ _ _ _ _ _ _))
                    rw [if_pos c121] at H
                    have c121b0 : (t439 == t441) = true := beq_iff_eq.mpr c121
                    have c121b1 : (t439 != t441) = false := bne_eq_false_iff_eq.mpr c121
                    clear c121
                    replace H := Option.bind_eq_some_iff.mp H
                    obtain ⟨t442, A1220, H⟩ := H
                    replace H : (if t442 = true then ((L05_awake.f kj97).bind fun t443 => (some t443)) else (some false)) = some true := H
                    have A122 := Aside0.mk A1220
                    clear A1220
                    by_cases c123 : t442 = true
                    rotate_left
                    · replace c123 := Bool.eq_false_iff.mpr c123
                      subst c123
                      have H1 : (some false) = some true := by rw [if_neg (show ¬ (false = true) by decide)] at H; exact H
                      clear H
                      have H := H1
                      clear H1
                      exact absurd H (by repeat (first | exact never_none | exact never_false | refine never_ite ?_ ?_ | refine never_bind (fun _ => ?_) | exact L05_RingLooks.j0_d47true _ _ _ _ _ _ _ _ _ | exact L05_RingLooks.j1_d65true _ _ _ _ _ _ _ _ _ | exact L05_RingLooks.j2_d85true _ _ _ _ _ _ _ _ | exact L05_RingLooks.j3_d105true _ _ _ _ _ _ _ _))
                    subst c123
                    have H1 : ((L05_awake.f kj97).bind fun t443 => (some t443)) = some true := by rw [if_pos rfl] at H; exact H
                    clear H
                    have H := H1
                    clear H1
                    replace H := Option.bind_eq_some_iff.mp H
                    obtain ⟨t443, A1240, H⟩ := H
                    replace H : (some t443) = some true := H
                    have A124 := Aside0.mk A1240
                    clear A1240
                    have Ht_ := Option.some.inj H
                    clear H
                    subst Ht_
                    have H : (some true : Option Bool) = some true := rfl
                    clear H
                    have hnb125 := NB402_395.out
                    have hnc125 := NB395_402.out
                    have hnb126 := NB402_409.out
                    have hnc126 := NB409_402.out
                    have hnb127 := NB402_416.out
                    have hnc127 := NB416_402.out
                    have hnb128 := NB402_425.out
                    have hnc128 := NB425_402.out
                    have hnb129 := NB402_429.out
                    have hnc129 := NB429_402.out
                    have hcz130_0 : wc.cell? ⟨gb402, 0, none⟩ = some (.int .i64 t397) := (blk_cell BK402.out 0).trans rfl
                    have hcz130_1 : wc.cell? ⟨gb402, 1, none⟩ = some (.int .u64 t398) := (blk_cell BK402.out 1).trans rfl
                    have hcz130_2 : wc.cell? ⟨gb402, 2, none⟩ = some (.slice Ao19 t399.length co19) := (blk_cell BK402.out 2).trans rfl
                    have hfz130_0 := blk_frozen BK402.out 0
                    have hfz130_1 := blk_frozen BK402.out 1
                    have hfz130_2 := blk_frozen BK402.out 2
                    go_wp2_with (first | ((with_reducible refine gate_callee (f := 29) rfl ?_); refine goesL_ (some 109) rfl rfl Try.func29 (by kernel_rfl) rfl #[.agg #[.int .i64 t397, .int .u64 t398, .slice Ao19 t399.length co19], .int .u64 a2] rfl (by (try simp only [List.map_toArray, List.map_cons, List.map_nil]); first | done | rfl | (simp only [List.length_drop, List.length_take]; rfl)) ?_; (with_reducible refine (ring_Age.calls t397 t398 _ _ t399 a2 t434 t435 _ ?side1 ?side2 A114.out).mono ?_); (case side1 => repeat (first | exact (Kd.R_reads' HO_403002.out).2.2 | (with_reducible refine Kd.C_alloc ?_ _) | (with_reducible refine Kd.C_drewN ?_ _) | (with_reducible refine Kd.C_drew ?_))); (case side2 => exact (Kd.R_reads' HO_403002.out).2.1); rintro e w131 ⟨rfl, hb⟩; refine ⟨_, rfl, ?_⟩; have n0_ := Aside0.mk (Kd.R_below (by (with_reducible repeat (first | apply Kd.R_alloc | apply Kd.R_drewN | apply Kd.R_drew)); exact HO_403002.out) hb); have n3_ := Aside0.mk (blk_below (g := gb395) (o := .cells #[.int .i64 a0_0, .int .u64 a0_1, .slice A0_2 l0_2.length c0_2] 25 (0, 0)) (by (with_reducible repeat (first | refine blk_drewN ?_ _ | refine blk_drew ?_ | refine blk_alloc ?_ _)); exact BK395.out) hb); have n4_ := Aside0.mk (blk_below (g := gb402) (o := .cells #[.int .i64 t397, .int .u64 t398, .slice Ao19 t399.length co19] 25 (0, 0)) (by (with_reducible repeat (first | refine blk_drewN ?_ _ | refine blk_drew ?_ | refine blk_alloc ?_ _)); exact BK402.out) hb); have n9_ := Aside0.mk (below_step (by repeat (first | (with_reducible first | exact HB.out | apply below_alloc | apply pw_below_drewN | apply below_drew1 | refine below_set ?_ GE395.out | refine below_set ?_ GE402.out | refine below_set ?_ GE409.out | refine below_set ?_ GE416.out | refine below_set ?_ GE425.out | refine below_set ?_ GE429.out) | exact HB.out)) hb); clear HO_403002; clear HO_410002; clear HO_417002; clear BK395; clear BK402; clear BK409; clear BK416; clear BK425; clear BK429; clear HB; have HO_403002 := n0_; have BK395 := n3_; have BK402 := n4_; have HB := n9_; clear n0_ n3_ n4_ n9_; (try clear hb); (try clear hb2); (try clear hk); (try clear hi); have hnb132 := NB395_409.out; have hnc132 := NB409_395.out; have hnb133 := NB395_416.out; have hnc133 := NB416_395.out; have hnb134 := NB395_425.out; have hnc134 := NB425_395.out; have hnb135 := NB395_429.out; have hnc135 := NB429_395.out; have hcz136_0 : w131.cell? ⟨gb395, 0, none⟩ = some (.int .i64 a0_0) := (blk_cell BK395.out 0).trans rfl; have hcz136_1 : w131.cell? ⟨gb395, 1, none⟩ = some (.int .u64 a0_1) := (blk_cell BK395.out 1).trans rfl; have hcz136_2 : w131.cell? ⟨gb395, 2, none⟩ = some (.slice A0_2 l0_2.length c0_2) := (blk_cell BK395.out 2).trans rfl; have hfz136_0 := blk_frozen BK395.out 0; have hfz136_1 := blk_frozen BK395.out 1; have hfz136_2 := blk_frozen BK395.out 2) | ((with_reducible refine gate_callee (f := 30) rfl ?_); refine goesL_ (some 115) rfl rfl Try.func30 (by kernel_rfl) rfl #[.agg #[.int .i64 a0_0, .int .u64 a0_1, .slice A0_2 l0_2.length c0_2], .int .u64 a2] rfl (by (try simp only [List.map_toArray, List.map_cons, List.map_nil]); first | done | rfl | (simp only [List.length_drop, List.length_take]; rfl)) ?_; (with_reducible refine (R05_Age.calls kj97 a0_0 a0_1 _ _ l0_2 a2 t436 t437 _ ?side1 ?side2 A115.out).mono ?_); (case side1 => repeat (first | exact (Kd.C_below HR0_2.out HB.out) | (with_reducible refine Kd.C_alloc ?_ _) | (with_reducible refine Kd.C_drewN ?_ _) | (with_reducible refine Kd.C_drew ?_))); (case side2 => exact HC0_2.out); rintro e w137 ⟨rfl, hb⟩; refine ⟨_, rfl, ?_⟩; have n0_ := Aside0.mk (Kd.R_below (by (with_reducible repeat (first | apply Kd.R_alloc | apply Kd.R_drewN | apply Kd.R_drew)); exact HO_403002.out) hb); have n3_ := Aside0.mk (blk_below (g := gb395) (o := .cells #[.int .i64 a0_0, .int .u64 a0_1, .slice A0_2 l0_2.length c0_2] 25 (0, 0)) (by (with_reducible repeat (first | refine blk_drewN ?_ _ | refine blk_drew ?_ | refine blk_alloc ?_ _)); exact BK395.out) hb); have n4_ := Aside0.mk (blk_below (g := gb402) (o := .cells #[.int .i64 t397, .int .u64 t398, .slice Ao19 t399.length co19] 25 (0, 0)) (by (with_reducible repeat (first | refine blk_drewN ?_ _ | refine blk_drew ?_ | refine blk_alloc ?_ _)); exact BK402.out) hb); have n9_ := Aside0.mk (below_step (by repeat (first | (with_reducible first | exact HB.out | apply below_alloc | apply pw_below_drewN | apply below_drew1 | refine below_set ?_ GE395.out | refine below_set ?_ GE402.out | refine below_set ?_ GE409.out | refine below_set ?_ GE416.out | refine below_set ?_ GE425.out | refine below_set ?_ GE429.out) | exact HB.out)) hb); clear HO_403002; clear BK395; clear BK402; clear HB; have HO_403002 := n0_; have BK395 := n3_; have BK402 := n4_; have HB := n9_; clear n0_ n3_ n4_ n9_; (try clear hb); (try clear hb2); (try clear hk); (try clear hi); have hcz138_0 : w137.cell? ⟨gb402, 0, none⟩ = some (.int .i64 t397) := (blk_cell BK402.out 0).trans rfl; have hcz138_1 : w137.cell? ⟨gb402, 1, none⟩ = some (.int .u64 t398) := (blk_cell BK402.out 1).trans rfl; have hcz138_2 : w137.cell? ⟨gb402, 2, none⟩ = some (.slice Ao19 t399.length co19) := (blk_cell BK402.out 2).trans rfl; have hfz138_0 := blk_frozen BK402.out 0; have hfz138_1 := blk_frozen BK402.out 1; have hfz138_2 := blk_frozen BK402.out 2) | ((with_reducible refine gate_callee (f := 31) rfl ?_); refine goesL_ (some 120) rfl rfl Try.func31 (by kernel_rfl) rfl #[.agg #[.int .i64 t397, .int .u64 t398, .slice Ao19 t399.length co19]] rfl (by (try simp only [List.map_toArray, List.map_cons, List.map_nil]); first | done | rfl | (simp only [List.length_drop, List.length_take]; rfl)) ?_; (with_reducible refine (ring_Rest.calls kj97 t397 t398 _ _ t399 t438 t439 _ ?side1 ?side2 A116.out).mono ?_); (case side1 => repeat (first | exact (Kd.R_reads' HO_403002.out).2.2 | (with_reducible refine Kd.C_alloc ?_ _) | (with_reducible refine Kd.C_drewN ?_ _) | (with_reducible refine Kd.C_drew ?_))); (case side2 => exact (Kd.R_reads' HO_403002.out).2.1); rintro e w139 ⟨rfl, hb⟩; refine ⟨_, rfl, ?_⟩; have n0_ := Aside0.mk (Kd.R_below (by (with_reducible repeat (first | apply Kd.R_alloc | apply Kd.R_drewN | apply Kd.R_drew)); exact HO_403002.out) hb); have n3_ := Aside0.mk (blk_below (g := gb395) (o := .cells #[.int .i64 a0_0, .int .u64 a0_1, .slice A0_2 l0_2.length c0_2] 25 (0, 0)) (by (with_reducible repeat (first | refine blk_drewN ?_ _ | refine blk_drew ?_ | refine blk_alloc ?_ _)); exact BK395.out) hb); have n4_ := Aside0.mk (blk_below (g := gb402) (o := .cells #[.int .i64 t397, .int .u64 t398, .slice Ao19 t399.length co19] 25 (0, 0)) (by (with_reducible repeat (first | refine blk_drewN ?_ _ | refine blk_drew ?_ | refine blk_alloc ?_ _)); exact BK402.out) hb); have n9_ := Aside0.mk (below_step (by repeat (first | (with_reducible first | exact HB.out | apply below_alloc | apply pw_below_drewN | apply below_drew1 | refine below_set ?_ GE395.out | refine below_set ?_ GE402.out | refine below_set ?_ GE409.out | refine below_set ?_ GE416.out | refine below_set ?_ GE425.out | refine below_set ?_ GE429.out) | exact HB.out)) hb); clear HO_403002; clear BK395; clear BK402; clear HB; have HO_403002 := n0_; have BK395 := n3_; have BK402 := n4_; have HB := n9_; clear n0_ n3_ n4_ n9_; (try clear hb); (try clear hb2); (try clear hk); (try clear hi); have hcz140_0 : w139.cell? ⟨gb395, 0, none⟩ = some (.int .i64 a0_0) := (blk_cell BK395.out 0).trans rfl; have hcz140_1 : w139.cell? ⟨gb395, 1, none⟩ = some (.int .u64 a0_1) := (blk_cell BK395.out 1).trans rfl; have hcz140_2 : w139.cell? ⟨gb395, 2, none⟩ = some (.slice A0_2 l0_2.length c0_2) := (blk_cell BK395.out 2).trans rfl; have hfz140_0 := blk_frozen BK395.out 0; have hfz140_1 := blk_frozen BK395.out 1; have hfz140_2 := blk_frozen BK395.out 2) | ((with_reducible refine gate_callee (f := 32) rfl ?_); refine goesL_ (some 125) rfl rfl Try.func32 (by kernel_rfl) rfl #[.agg #[.int .i64 a0_0, .int .u64 a0_1, .slice A0_2 l0_2.length c0_2]] rfl (by (try simp only [List.map_toArray, List.map_cons, List.map_nil]); first | done | rfl | (simp only [List.length_drop, List.length_take]; rfl)) ?_; (with_reducible refine (R05_Rest.calls kj97 a0_0 a0_1 _ _ l0_2 t440 t441 _ ?side1 ?side2 A117.out).mono ?_); (case side1 => repeat (first | exact (Kd.C_below HR0_2.out HB.out) | (with_reducible refine Kd.C_alloc ?_ _) | (with_reducible refine Kd.C_drewN ?_ _) | (with_reducible refine Kd.C_drew ?_))); (case side2 => exact HC0_2.out); rintro e w141 ⟨rfl, hb⟩; refine ⟨_, rfl, ?_⟩; have n0_ := Aside0.mk (Kd.R_below (by (with_reducible repeat (first | apply Kd.R_alloc | apply Kd.R_drewN | apply Kd.R_drew)); exact HO_403002.out) hb); have n3_ := Aside0.mk (blk_below (g := gb395) (o := .cells #[.int .i64 a0_0, .int .u64 a0_1, .slice A0_2 l0_2.length c0_2] 25 (0, 0)) (by (with_reducible repeat (first | refine blk_drewN ?_ _ | refine blk_drew ?_ | refine blk_alloc ?_ _)); exact BK395.out) hb); have n4_ := Aside0.mk (blk_below (g := gb402) (o := .cells #[.int .i64 t397, .int .u64 t398, .slice Ao19 t399.length co19] 25 (0, 0)) (by (with_reducible repeat (first | refine blk_drewN ?_ _ | refine blk_drew ?_ | refine blk_alloc ?_ _)); exact BK402.out) hb); have n9_ := Aside0.mk (below_step (by repeat (first | (with_reducible first | exact HB.out | apply below_alloc | apply pw_below_drewN | apply below_drew1 | refine below_set ?_ GE395.out | refine below_set ?_ GE402.out | refine below_set ?_ GE409.out | refine below_set ?_ GE416.out | refine below_set ?_ GE425.out | refine below_set ?_ GE429.out) | exact HB.out)) hb); clear HO_403002; clear BK395; clear BK402; clear HB; have HO_403002 := n0_; have BK395 := n3_; have BK402 := n4_; have HB := n9_; clear n0_ n3_ n4_ n9_; (try clear hb); (try clear hb2); (try clear hk); (try clear hi); have hcz142_0 : w141.cell? ⟨gb402, 0, none⟩ = some (.int .i64 t397) := (blk_cell BK402.out 0).trans rfl; have hcz142_1 : w141.cell? ⟨gb402, 1, none⟩ = some (.int .u64 t398) := (blk_cell BK402.out 1).trans rfl; have hcz142_2 : w141.cell? ⟨gb402, 2, none⟩ = some (.slice Ao19 t399.length co19) := (blk_cell BK402.out 2).trans rfl; have hfz142_0 := blk_frozen BK402.out 0; have hfz142_1 := blk_frozen BK402.out 1; have hfz142_2 := blk_frozen BK402.out 2; have hcz143_0 : w141.cell? ⟨gb395, 0, none⟩ = some (.int .i64 a0_0) := (blk_cell BK395.out 0).trans rfl; have hcz143_1 : w141.cell? ⟨gb395, 1, none⟩ = some (.int .u64 a0_1) := (blk_cell BK395.out 1).trans rfl; have hcz143_2 : w141.cell? ⟨gb395, 2, none⟩ = some (.slice A0_2 l0_2.length c0_2) := (blk_cell BK395.out 2).trans rfl; have hfz143_0 := blk_frozen BK395.out 0; have hfz143_1 := blk_frozen BK395.out 1; have hfz143_2 := blk_frozen BK395.out 2) | ((with_reducible refine gate_callee (f := 14) rfl ?_); (with_reducible refine gate_dst (N := 149) rfl ?_); refine gate_guard (by rfl) ?_; dsimp only; refine goesL_ (some 149) rfl rfl Try.func14 (by kernel_rfl) rfl #[.agg #[.int .i64 t397, .int .u64 t398, .slice Ao19 t399.length co19], .agg #[.int .i64 a0_0, .int .u64 a0_1, .slice A0_2 l0_2.length c0_2]] rfl (by (try simp only [List.map_toArray, List.map_cons, List.map_nil]); first | done | rfl | (simp only [List.length_drop, List.length_take]; rfl)) ?_; (with_reducible refine (K_SameRing.calls kj97 t397 t398 _ _ t399 a0_0 a0_1 _ _ l0_2 true _ ?side1 ?side2 ?side3 ?side4 A122.out).mono ?_); (case side1 => repeat (first | exact (Kd.R_reads' HO_403002.out).2.2 | (with_reducible refine Kd.C_alloc ?_ _) | (with_reducible refine Kd.C_drewN ?_ _) | (with_reducible refine Kd.C_drew ?_))); (case side2 => exact (Kd.R_reads' HO_403002.out).2.1); (case side3 => repeat (first | exact (Kd.C_below HR0_2.out HB.out) | (with_reducible refine Kd.C_alloc ?_ _) | (with_reducible refine Kd.C_drewN ?_ _) | (with_reducible refine Kd.C_drew ?_))); (case side4 => exact HC0_2.out); rintro e w144 ⟨rfl, hb⟩; refine ⟨_, rfl, ?_⟩; have n9_ := Aside0.mk (below_step (by repeat (first | (with_reducible first | exact HB.out | apply below_alloc | apply pw_below_drewN | apply below_drew1 | refine below_set ?_ GE395.out | refine below_set ?_ GE402.out | refine below_set ?_ GE409.out | refine below_set ?_ GE416.out | refine below_set ?_ GE425.out | refine below_set ?_ GE429.out) | exact HB.out)) hb); clear HO_403002; clear BK395; clear BK402; clear HB; have HB := n9_; clear n9_; (try clear hb); (try clear hb2); (try clear hk); (try clear hi)) | ((with_reducible refine gate_callee (f := 9) rfl ?_); (with_reducible refine gate_dst (N := 152) rfl ?_); refine gate_guard (by rfl) ?_; dsimp only; refine goesL_ (some 152) rfl rfl Try.func9 (by kernel_rfl) rfl #[] rfl (by (try simp only [List.map_toArray, List.map_cons, List.map_nil]); first | done | rfl | (simp only [List.length_drop, List.length_take]; rfl)) ?_; (with_reducible refine (L05_awake.calls kj97  true _ A124.out).mono ?_); rintro e w145 ⟨rfl, hb⟩; refine ⟨_, rfl, ?_⟩; have n9_ := Aside0.mk (below_step (by repeat (first | (with_reducible first | exact HB.out | apply below_alloc | apply pw_below_drewN | apply below_drew1 | refine below_set ?_ GE395.out | refine below_set ?_ GE402.out | refine below_set ?_ GE409.out | refine below_set ?_ GE416.out | refine below_set ?_ GE425.out | refine below_set ?_ GE429.out) | exact HB.out)) hb); clear HB; have HB := n9_; clear n9_; (try clear hb); (try clear hb2); (try clear hk); (try clear hi)))
                    all_goals go_ret
                    all_goals exact ⟨by first | rfl | (simp [errW_none, errW_some] <;> rfl) | (simp [*, errW_none, errW_some] <;> rfl), by repeat (first | (with_reducible first | exact HB.out | apply below_alloc | apply pw_below_drewN | apply below_drew1 | refine below_set ?_ GE395.out | refine below_set ?_ GE402.out | refine below_set ?_ GE409.out | refine below_set ?_ GE416.out | refine below_set ?_ GE425.out | refine below_set ?_ GE429.out) | exact HB.out)⟩


end Go.Proofs.Ytoekmdcldfmmcaa.F
end
