/- Part 3 of RingWipes: what the functions reckon, step by step, and plain laws. No condition. -/
import Derived.Test.YtoekmdcldfmmcaaKRingWipesx2
set_option linter.unusedVariables false
set_option linter.unusedSimpArgs false
section
-- Written by fork.py (this session's program over the kit's print.py). Not trusted: Lean checks it.
namespace Go.Proofs.Ytoekmdcldfmmcaa.F
open Go.RowKit Go.Proofs.YtoekmdcldfmmcaaW.PrintWords Go.Proofs.YtoekmdcldfmmcaaW.PrintLast Go.Proofs.YtoekmdcldfmmcaaW.PrintMore
attribute [local go_sem] max2_int min2_int max_two min_two max_three min_three max_four min_four
set_option linter.unusedVariables false
set_option linter.unusedSimpArgs false

/-! ### L05_made: function 36 -/
mutual
def L05_made.j0 : Nat → List Int → Int → Bool → Int → Int → List (S35) → Option (Int × Int × (List (S35)) × List Int × Bool)
  | 0, _, _, _, _, _, _ => none
  | k + 1, x1, x7, x33, x518000, x518001, x518002 => if x33 = true then (some (x518000, x518001, x518002, ([] : List Int), false)) else (L05_made.l0 k x1 x7 ([] : List Int) 0 x518000 x518001 x518002)
def L05_made.l0 : Nat → List Int → Int → List Int → Int → Int → Int → List (S35) → Option (Int × Int × (List (S35)) × List Int × Bool)
  | 0, _, _, _, _, _, _, _ => none
  | k + 1, x1, x7, x10, x11, x518000, x518001, x518002 => if x11 < (x1.length : Int) then (L05_made.j2 k x1 x7 x10 x11 (decide (x11 < 60)) x518000 x518001 x518002) else (L05_made.j2 k x1 x7 x10 x11 false x518000 x518001 x518002)
def L05_made.j2 : Nat → List Int → Int → List Int → Int → Bool → Int → Int → List (S35) → Option (Int × Int × (List (S35)) × List Int × Bool)
  | 0, _, _, _, _, _, _, _, _ => none
  | k + 1, x1, x7, x10, x11, x42, x518000, x518001, x518002 => if x42 = true then (if 0 ≤ x11 then (if x11 < (x1.length : Int) then ((K_Mod.f (rd x1 x11) 1048576).bind fun t521 => (if (Int.tmod t521 6) < 4 then ((ring_Put.f x518000 x518001 x518002 (Int.tmod (wrap64 (Int.tdiv t521 6)) 5)).bind fun bt523 => (if bt523.2.2.2.2 = 0 then (if x10.length < 17592186044416 then (L05_made.j3 k x1 x7 (x10 ++ [bt523.2.2.2.1]) x11 bt523.2.2.2.2 x518000 x518001 x518002 bt523.1 bt523.2.1 bt523.2.2.1) else (none)) else (L05_made.j3 k x1 x7 x10 x11 bt523.2.2.2.2 x518000 x518001 x518002 bt523.1 bt523.2.1 bt523.2.2.1))) else (if (Int.tmod t521 6) = 4 then ((ring_Drop.f x518000 x518001 x518002 (IntKind.u64.wrap (wrap64 (1 + (Int.tmod (wrap64 (Int.tdiv t521 6)) 40))))).bind fun bt533 => (L05_made.j3 k x1 x7 x10 x11 bt533.2.2.2.2.2 x518000 x518001 x518002 bt533.1 bt533.2.1 bt533.2.2.1)) else ((ring_Wipe.f x518000 x518001 x518002 (([Int.tmod (wrap64 (Int.tdiv t521 6)) 9] : List Int))).bind fun bt544 => (L05_made.j3 k x1 x7 x10 x11 bt544.2.2.2.2 x518000 x518001 x518002 bt544.1 bt544.2.1 bt544.2.2.1))))) else (none)) else (none)) else ((ring_Check.f k x518000 x518001 x518002).bind fun bt518 => (if bt518.1 = 0 then (some (x518000, x518001, x518002, x10, (x518000 == x7))) else (some (x518000, x518001, x518002, x10, false))))
def L05_made.j3 : Nat → List Int → Int → List Int → Int → Int → Int → Int → List (S35) → Int → Int → List (S35) → Option (Int × Int × (List (S35)) × List Int × Bool)
  | 0, _, _, _, _, _, _, _, _, _, _, _ => none
  | k + 1, x1, x7, x10, x11, x14, x518000, x518001, x518002, x523000, x523001, x523002 => if x14 = 0 then (L05_made.l0 k x1 x7 x10 (wrap64 (x11 + 1)) x523000 x523001 x523002) else (if x14 = 5 then (L05_made.l0 k x1 x7 x10 (wrap64 (x11 + 1)) x518000 x518001 x518002) else (if x14 = 6 then (L05_made.l0 k x1 x7 x10 (wrap64 (x11 + 1)) x518000 x518001 x518002) else (some (x518000, x518001, x518002, x10, false))))
end
def L05_made.f (k : Nat) (a0 : Int) (l1 : List Int) : Option (Int × Int × (List (S35)) × List Int × Bool) := (K_Mod.f a0 32).bind fun t510 => ((ring_New.f (wrap64 (1 + t510))).bind fun bt511 => (if bt511.2.2.2 = 0 then (L05_made.j0 k l1 (wrap64 (1 + t510)) (bt511.1 != (wrap64 (1 + t510))) bt511.1 bt511.2.1 bt511.2.2.1) else (L05_made.j0 k l1 (wrap64 (1 + t510)) true bt511.1 bt511.2.1 bt511.2.2.1)))
theorem L05_made.mono_l : ∀ k, (∀ y0 y1 y2 y3 y4 y5, LeO (L05_made.j0 k y0 y1 y2 y3 y4 y5) (L05_made.j0 (k + 1) y0 y1 y2 y3 y4 y5)) ∧ (∀ y0 y1 y2 y3 y4 y5 y6, LeO (L05_made.l0 k y0 y1 y2 y3 y4 y5 y6) (L05_made.l0 (k + 1) y0 y1 y2 y3 y4 y5 y6)) ∧ (∀ y0 y1 y2 y3 y4 y5 y6 y7, LeO (L05_made.j2 k y0 y1 y2 y3 y4 y5 y6 y7) (L05_made.j2 (k + 1) y0 y1 y2 y3 y4 y5 y6 y7)) ∧ (∀ y0 y1 y2 y3 y4 y5 y6 y7 y8 y9 y10, LeO (L05_made.j3 k y0 y1 y2 y3 y4 y5 y6 y7 y8 y9 y10) (L05_made.j3 (k + 1) y0 y1 y2 y3 y4 y5 y6 y7 y8 y9 y10))
  | 0 => ⟨fun _ _ _ _ _ _ r h => by simp [L05_made.j0] at h, fun _ _ _ _ _ _ _ r h => by simp [L05_made.l0] at h, fun _ _ _ _ _ _ _ _ r h => by simp [L05_made.j2] at h, fun _ _ _ _ _ _ _ _ _ _ _ r h => by simp [L05_made.j3] at h⟩
  | k + 1 => by
    obtain ⟨ih0, ih1, ih2, ih3⟩ := L05_made.mono_l k
    refine ⟨?_, ?_, ?_, ?_⟩
    · intro y0 y1 y2 y3 y4 y5
      unfold L05_made.j0
      repeat' first
      | (with_reducible exact ih0 _ _ _ _ _ _)
      | (with_reducible exact ih1 _ _ _ _ _ _ _)
      | (with_reducible exact ih2 _ _ _ _ _ _ _ _)
      | (with_reducible exact ih3 _ _ _ _ _ _ _ _ _ _ _)
      | (with_reducible exact ring_Check.mono _ _ _ _)
      | (with_reducible exact LeO.refl _)
      | (with_reducible exact LeO.none _)
      | (with_reducible refine LeO.ite ?_ ?_)
      | (with_reducible refine LeO.bind ?_ (fun _ => ?_))
      | exact ih0 _ _ _ _ _ _
      | exact ih1 _ _ _ _ _ _ _
      | exact ih2 _ _ _ _ _ _ _ _
      | exact ih3 _ _ _ _ _ _ _ _ _ _ _
      | exact ring_Check.mono _ _ _ _
      | exact LeO.none _
      | refine LeO.ite ?_ ?_
      | refine LeO.bind ?_ (fun _ => ?_)
    · intro y0 y1 y2 y3 y4 y5 y6
      unfold L05_made.l0
      repeat' first
      | (with_reducible exact ih0 _ _ _ _ _ _)
      | (with_reducible exact ih1 _ _ _ _ _ _ _)
      | (with_reducible exact ih2 _ _ _ _ _ _ _ _)
      | (with_reducible exact ih3 _ _ _ _ _ _ _ _ _ _ _)
      | (with_reducible exact ring_Check.mono _ _ _ _)
      | (with_reducible exact LeO.refl _)
      | (with_reducible exact LeO.none _)
      | (with_reducible refine LeO.ite ?_ ?_)
      | (with_reducible refine LeO.bind ?_ (fun _ => ?_))
      | exact ih0 _ _ _ _ _ _
      | exact ih1 _ _ _ _ _ _ _
      | exact ih2 _ _ _ _ _ _ _ _
      | exact ih3 _ _ _ _ _ _ _ _ _ _ _
      | exact ring_Check.mono _ _ _ _
      | exact LeO.none _
      | refine LeO.ite ?_ ?_
      | refine LeO.bind ?_ (fun _ => ?_)
    · intro y0 y1 y2 y3 y4 y5 y6 y7
      unfold L05_made.j2
      repeat' first
      | (with_reducible exact ih0 _ _ _ _ _ _)
      | (with_reducible exact ih1 _ _ _ _ _ _ _)
      | (with_reducible exact ih2 _ _ _ _ _ _ _ _)
      | (with_reducible exact ih3 _ _ _ _ _ _ _ _ _ _ _)
      | (with_reducible exact ring_Check.mono _ _ _ _)
      | (with_reducible exact LeO.refl _)
      | (with_reducible exact LeO.none _)
      | (with_reducible refine LeO.ite ?_ ?_)
      | (with_reducible refine LeO.bind ?_ (fun _ => ?_))
      | exact ih0 _ _ _ _ _ _
      | exact ih1 _ _ _ _ _ _ _
      | exact ih2 _ _ _ _ _ _ _ _
      | exact ih3 _ _ _ _ _ _ _ _ _ _ _
      | exact ring_Check.mono _ _ _ _
      | exact LeO.none _
      | refine LeO.ite ?_ ?_
      | refine LeO.bind ?_ (fun _ => ?_)
    · intro y0 y1 y2 y3 y4 y5 y6 y7 y8 y9 y10
      unfold L05_made.j3
      repeat' first
      | (with_reducible exact ih0 _ _ _ _ _ _)
      | (with_reducible exact ih1 _ _ _ _ _ _ _)
      | (with_reducible exact ih2 _ _ _ _ _ _ _ _)
      | (with_reducible exact ih3 _ _ _ _ _ _ _ _ _ _ _)
      | (with_reducible exact ring_Check.mono _ _ _ _)
      | (with_reducible exact LeO.refl _)
      | (with_reducible exact LeO.none _)
      | (with_reducible refine LeO.ite ?_ ?_)
      | (with_reducible refine LeO.bind ?_ (fun _ => ?_))
      | exact ih0 _ _ _ _ _ _
      | exact ih1 _ _ _ _ _ _ _
      | exact ih2 _ _ _ _ _ _ _ _
      | exact ih3 _ _ _ _ _ _ _ _ _ _ _
      | exact ring_Check.mono _ _ _ _
      | exact LeO.none _
      | refine LeO.ite ?_ ?_
      | refine LeO.bind ?_ (fun _ => ?_)
theorem L05_made.mono : ∀ a0 a1 k, LeO (L05_made.f k a0 a1) (L05_made.f (k + 1) a0 a1) := by
  intro a0 a1 k
  obtain ⟨ih0, ih1, ih2, ih3⟩ := L05_made.mono_l k
  unfold L05_made.f
  repeat' first
      | (with_reducible exact ih0 _ _ _ _ _ _)
      | (with_reducible exact ih1 _ _ _ _ _ _ _)
      | (with_reducible exact ih2 _ _ _ _ _ _ _ _)
      | (with_reducible exact ih3 _ _ _ _ _ _ _ _ _ _ _)
      | (with_reducible exact ring_Check.mono _ _ _ _)
      | (with_reducible exact LeO.refl _)
      | (with_reducible exact LeO.none _)
      | (with_reducible refine LeO.ite ?_ ?_)
      | (with_reducible refine LeO.bind ?_ (fun _ => ?_))
      | exact ih0 _ _ _ _ _ _
      | exact ih1 _ _ _ _ _ _ _
      | exact ih2 _ _ _ _ _ _ _ _
      | exact ih3 _ _ _ _ _ _ _ _ _ _ _
      | exact ring_Check.mono _ _ _ _
      | exact LeO.none _
      | refine LeO.ite ?_ ?_
      | refine LeO.bind ?_ (fun _ => ?_)
def L05_made.T27 : Bool × List (List Nat × List Nat) := (true, [([], []), ([], []), ([], []), ([2], [2]), ([3], [3]), ([4], [4]), ([5, 4], [4, 5]), ([4], [4]), ([6, 7, 4], [4, 6, 7]), ([4, 8], [4, 8]), ([0, 4, 0], [0]), ([1, 10, 0, 1, 10], [1]), ([9, 11, 0, 1, 2, 3, 4, 5, 6, 7, 8, 9, 10, 11], [9])])
def L05_made.B27 : List Nat := [0, 0, 0, 4, 12, 28, 60, 28, 252, 508, 29, 1055, 4095]
theorem L05_made.tab27 : rtab .any (opsOf Try.f36 27) = L05_made.T27 := by kernel_rfl
theorem L05_made.bits27 : waitsOk L05_made.T27.2 L05_made.B27 = true := by kernel_rfl
set_option maxHeartbeats 8000000 in
set_option maxRecDepth 100000 in
theorem L05_made.calls (k : Nat) (a0 : Int) (A1 : Option Addr) (c1 : Nat) (l1 : List Int) (r1 : Int) (r2 : Int) (r3 : List (S35)) (r4 : List Int) (r5 : Bool) (w : World) (hr1 : Kd.C (Kd.int .i64) w A1 l1.length l1) (hc1 : l1.length ≤ c1) (h : L05_made.f k a0 l1 = some (r1, r2, r3, r4, r5)) :
    Calls Try.prog 36 #[.int .i64 a0, .slice A1 l1.length c1] w fun e w' => ∃ v2_ v3_ : Value, e = .returned (.tuple #[.agg #[.int .i64 r1, .int .u64 r2, v2_], v3_, .bool r5]) ∧ Kd.R k35 35 w' w.heap.size (fun _ => True) v2_ r3 ∧ Kd.R (Kd.int .u64) 22 w' w.heap.size (fun _ => True) v3_ r4 ∧ Below w.heap.size w w' := by
  have hu25 := Try.underlying25
  have HR1 := Aside0.mk hr1
  have HC1 := Aside0.mk hc1
  clear hr1 hc1
  have HB := Aside0.mk (Below.refl w.heap.size w)
  have H : ((K_Mod.f a0 32).bind fun t510 => ((ring_New.f (wrap64 (1 + t510))).bind fun bt511 => (if bt511.2.2.2 = 0 then (L05_made.j0 k l1 (wrap64 (1 + t510)) (bt511.1 != (wrap64 (1 + t510))) bt511.1 bt511.2.1 bt511.2.2.1) else (L05_made.j0 k l1 (wrap64 (1 + t510)) true bt511.1 bt511.2.1 bt511.2.2.1)))) = some (r1, r2, r3, r4, r5) := h
  clear h
  replace H := Option.bind_eq_some_iff.mp H
  obtain ⟨t510, A30, H⟩ := H
  replace H : ((ring_New.f (wrap64 (1 + t510))).bind fun bt511 => (if bt511.2.2.2 = 0 then (L05_made.j0 k l1 (wrap64 (1 + t510)) (bt511.1 != (wrap64 (1 + t510))) bt511.1 bt511.2.1 bt511.2.2.1) else (L05_made.j0 k l1 (wrap64 (1 + t510)) true bt511.1 bt511.2.1 bt511.2.2.1))) = some (r1, r2, r3, r4, r5) := H
  have A3 := Aside0.mk A30
  clear A30
  replace H := Option.bind_eq_some_iff.mp H
  obtain ⟨⟨t511, t512, t513, t516⟩, A40, H⟩ := H
  replace H : (if t516 = 0 then (L05_made.j0 k l1 (wrap64 (1 + t510)) (t511 != (wrap64 (1 + t510))) t511 t512 t513) else (L05_made.j0 k l1 (wrap64 (1 + t510)) true t511 t512 t513)) = some (r1, r2, r3, r4, r5) := H
  have A4 := Aside0.mk A40
  clear A40
  have HC5 := Aside0.mk H
  clear H
  go_enter Try.func36, Try.ntmps36
  go_upto_region 3 with (first | ((with_reducible refine gate_dst (N := 4) rfl ?_); refine box_event ?hg (N := 4) ?hd (cs := #[.int .i64 0, .int .u64 0, .slice none 0 0]) (t := 25) ?hr ?_; (case hd => rfl); (case hg => rfl); (case hr => first | (go_simp; done) | (go_simp; rfl)); intro gb509 hg w6 hbox hb; have n0_ := Aside0.mk (below_step (by repeat (first | (with_reducible first | exact HB.out | apply below_alloc | apply pw_below_drewN | apply below_drew1) | exact HB.out)) hb); have n1_ := Aside0.mk (hbox); have n2_ := Aside0.mk ((by rw [hg]; exact (below_size (by repeat (first | (with_reducible first | exact HB.out | apply below_alloc | apply pw_below_drewN | apply below_drew1) | exact HB.out))) : w.heap.size ≤ gb509)); have n3_ := Aside0.mk ((by rw [hg]; exact (below_size (by repeat (first | (with_reducible first | exact HB.out | apply below_alloc | apply pw_below_drewN | apply below_drew1) | exact HB.out))) : w.heap.size ≤ gb509)); clear HB; have HB := n0_; have BK509 := n1_; have GW509 := n2_; have GE509 := n3_; clear n0_ n1_ n2_ n3_; clear hb hbox hg) | ((with_reducible refine gate_callee (f := 37) rfl ?_); refine goesL_ (some 19) rfl rfl Try.func37 (by kernel_rfl) rfl #[.int .i64 a0, .int .i64 32] rfl (by (try simp only [List.map_toArray, List.map_cons, List.map_nil]); first | done | rfl | (simp only [List.length_drop, List.length_take]; rfl)) ?_; (with_reducible refine (K_Mod.calls a0 32 t510 _ A3.out).mono ?_); rintro e w' ⟨rfl, ⟨nd, rfl⟩⟩; refine ⟨_, rfl, ?_⟩; (try (rw [drewN_self w6]; generalize hq_ : World.drewN w6 _ = w6; have n0_ : Aside0 (w6.heap[gb509]? = some (.cells #[.int .i64 0, .int .u64 0, .slice none 0 0] 25 (0, 0))) := ⟨by rw [← hq_]; exact (by (with_reducible repeat (first | refine blk_drewN ?_ _ | refine blk_drew ?_ | refine blk_alloc ?_ _)); exact BK509.out)⟩; have n1_ : Aside0 (Below w.heap.size w w6) := ⟨by rw [← hq_]; exact (by repeat (first | (with_reducible first | exact HB.out | apply below_alloc | apply pw_below_drewN | apply below_drew1 | refine below_set ?_ GE509.out) | exact HB.out))⟩; clear BK509 HB hq_; have BK509 := n0_; have HB := n1_; clear n0_ n1_))) | ((with_reducible refine gate_callee (f := 21) rfl ?_); refine goesL_ (some 23) rfl rfl Try.func21 (by kernel_rfl) rfl #[.int .i64 (wrap64 (1 + t510))] rfl (by (try simp only [List.map_toArray, List.map_cons, List.map_nil]); first | done | rfl | (simp only [List.length_drop, List.length_take]; rfl)) ?_; (with_reducible refine (ring_New.calls (wrap64 (1 + t510)) t511 t512 t513 t516 _ A4.out).mono ?_); rintro e w7 ⟨v514, rfl, ho0, hb⟩; refine ⟨_, rfl, ?_⟩; have n0_ := Aside0.mk (Kd.R_lower ho0 (below_size (by repeat (first | (with_reducible first | exact HB.out | apply below_alloc | apply pw_below_drewN | apply below_drew1 | refine below_set ?_ GE509.out) | exact HB.out)))); have n1_ := Aside0.mk (blk_below (g := gb509) (o := .cells #[.int .i64 0, .int .u64 0, .slice none 0 0] 25 (0, 0)) (by (with_reducible repeat (first | refine blk_drewN ?_ _ | refine blk_drew ?_ | refine blk_alloc ?_ _)); exact BK509.out) hb); have n2_ := Aside0.mk (below_step (by repeat (first | (with_reducible first | exact HB.out | apply below_alloc | apply pw_below_drewN | apply below_drew1 | refine below_set ?_ GE509.out) | exact HB.out)) hb); clear BK509; clear HB; have HO515 := n0_; have BK509 := n1_; have HB := n2_; clear n0_ n1_ n2_; (try clear hb); (try clear hb2); (try clear hk); (try clear hi); (try clear ho0)) | ((with_reducible refine gate_dst (N := 8) rfl ?_); refine box_event ?hg (N := 8) ?hd (cs := #[.int .i64 0, .int .u64 0, .slice none 0 0]) (t := 25) ?hr ?_; (case hd => rfl); (case hg => rfl); (case hr => first | (go_simp; done) | (go_simp; rfl)); intro gb517 hg w8 hbox hb; have n0_ := Aside0.mk (Kd.R_below (by (with_reducible repeat (first | apply Kd.R_alloc | apply Kd.R_drewN | apply Kd.R_drew)); exact HO515.out) hb); have n1_ := Aside0.mk (blk_below (g := gb509) (o := .cells #[.int .i64 0, .int .u64 0, .slice none 0 0] 25 (0, 0)) (by (with_reducible repeat (first | refine blk_drewN ?_ _ | refine blk_drew ?_ | refine blk_alloc ?_ _)); exact BK509.out) hb); have n2_ := Aside0.mk (below_step (by repeat (first | (with_reducible first | exact HB.out | apply below_alloc | apply pw_below_drewN | apply below_drew1 | refine below_set ?_ GE509.out) | exact HB.out)) hb); have n3_ := Aside0.mk (hbox); have n4_ := Aside0.mk ((by rw [hg]; exact (below_size (by repeat (first | (with_reducible first | exact HB.out | apply below_alloc | apply pw_below_drewN | apply below_drew1 | refine below_set ?_ GE509.out) | exact HB.out))) : w.heap.size ≤ gb517)); have n5_ := Aside0.mk ((by rw [hg]; exact (below_size (by repeat (first | (with_reducible first | exact HB.out | apply below_alloc | apply pw_below_drewN | apply below_drew1 | refine below_set ?_ GE509.out) | exact HB.out))) : w.heap.size ≤ gb517)); have n6_ := Aside0.mk ((by rw [hg]; exact Nat.ne_of_lt (blk_lt (g := gb509) (o := .cells #[.int .i64 0, .int .u64 0, .slice none 0 0] 25 (0, 0)) (by (with_reducible repeat (first | refine blk_drewN ?_ _ | refine blk_drew ?_ | refine blk_alloc ?_ _)); exact BK509.out)) : gb509 ≠ gb517)); have n7_ := Aside0.mk ((by rw [hg]; exact Nat.ne_of_gt (blk_lt (g := gb509) (o := .cells #[.int .i64 0, .int .u64 0, .slice none 0 0] 25 (0, 0)) (by (with_reducible repeat (first | refine blk_drewN ?_ _ | refine blk_drew ?_ | refine blk_alloc ?_ _)); exact BK509.out)) : gb517 ≠ gb509)); clear HO515; clear BK509; clear HB; have HO515 := n0_; have BK509 := n1_; have HB := n2_; have BK517 := n3_; have GW517 := n4_; have GE517 := n5_; have NB509_517 := n6_; have NB517_509 := n7_; clear n0_ n1_ n2_ n3_ n4_ n5_ n6_ n7_; clear hb hbox hg; have hnb9 := NB517_509.out; have hnc9 := NB509_517.out; have hcz10_0 : w8.cell? ⟨gb517, 0, none⟩ = some (.int .i64 0) := (blk_cell BK517.out 0).trans rfl; have hcz10_1 : w8.cell? ⟨gb517, 1, none⟩ = some (.int .u64 0) := (blk_cell BK517.out 1).trans rfl; have hcz10_2 : w8.cell? ⟨gb517, 2, none⟩ = some (.slice none 0 0) := (blk_cell BK517.out 2).trans rfl; have hfz10_0 := blk_frozen BK517.out 0; have hfz10_1 := blk_frozen BK517.out 1; have hfz10_2 := blk_frozen BK517.out 2; obtain ⟨Ao11, co11, eo11⟩ := Kd.R_slice HO515.out; subst eo11))
  (try simp only [Act.put, List.setIfInBounds_toArray, List.set_cons_zero, List.set_cons_succ])
  go_cut [33] (fun v33 wc => ∃ (kq : Nat) (x33_4 : Bool), v33 = .bool x33_4 ∧ Aside0 (L05_made.j0 kq l1 (wrap64 (1 + t510)) x33_4 t511 t512 t513 = some (r1, r2, r3, r4, r5)) ∧ Aside0 (kq ≤ k) ∧ Aside0 (Kd.R k35 35 wc w.heap.size (fun _ => True) (.slice Ao11 t513.length co11) t513) ∧ Aside0 (wc.heap[gb509]? = some (.cells #[.int .i64 0, .int .u64 0, (.slice none 0 0)] 25 (0, 0))) ∧ Aside0 (wc.heap[gb517]? = some (.cells #[.int .i64 t511, .int .u64 t512, (.slice Ao11 t513.length co11)] 25 (0, 0))) ∧ Aside0 (Below w.heap.size w wc))
  case first =>
    have H := HC5.out
    clear HC5
    by_cases c12 : t516 = 0
    · rw [if_pos c12] at H
      have c12b0 : (t516 == 0) = true := beq_iff_eq.mpr c12
      have c12b1 : (t516 != 0) = false := bne_eq_false_iff_eq.mpr c12
      clear c12
      (first | rw [c12b0] | (simp only [i64_w, i32_w]; rw [c12b0]) | skip)
      have H' := Aside0.mk H
      clear H
      have hnb13 := NB517_509.out
      have hnc13 := NB509_517.out
      have hcz14_0 : w8.cell? ⟨gb517, 0, none⟩ = some (.int .i64 0) := (blk_cell BK517.out 0).trans rfl
      have hcz14_1 : w8.cell? ⟨gb517, 1, none⟩ = some (.int .u64 0) := (blk_cell BK517.out 1).trans rfl
      have hcz14_2 : w8.cell? ⟨gb517, 2, none⟩ = some (.slice none 0 0) := (blk_cell BK517.out 2).trans rfl
      have hfz14_0 := blk_frozen BK517.out 0
      have hfz14_1 := blk_frozen BK517.out 1
      have hfz14_2 := blk_frozen BK517.out 2
      go_wp2
      go_meet
      case rel => exact ⟨_, ((t511 != (wrap64 (1 + t510)))), (by first | rfl | (simp; done) | (simp [*]; done)), H', ⟨by first | omega | exact Nat.le_refl _⟩, ⟨by (with_reducible repeat (first | apply Kd.R_alloc | apply Kd.R_drewN | apply Kd.R_drew)); exact Kd.R_mono (Kd.R_far (p := ⟨gb517, 2, none⟩) (Kd.R_far (p := ⟨gb517, 1, none⟩) (Kd.R_far (p := ⟨gb517, 0, none⟩) (Kd.R_types HO515.out BK517.out (by decide)) (fun _ hk => hk.2) (.int .i64 t511)) (fun _ hk => hk.2) (.int .u64 t512)) (fun _ hk => hk.2) (.slice Ao11 t513.length co11)) (fun _ hk => trivial)⟩, ⟨by (with_reducible repeat (first | refine blk_drewN ?_ _ | refine blk_drew ?_ | refine blk_alloc ?_ _)); refine blk_far ?_ NB509_517.out _; (with_reducible repeat (first | refine blk_drewN ?_ _ | refine blk_drew ?_ | refine blk_alloc ?_ _)); refine blk_far ?_ NB509_517.out _; (with_reducible repeat (first | refine blk_drewN ?_ _ | refine blk_drew ?_ | refine blk_alloc ?_ _)); refine blk_far ?_ NB509_517.out _; (with_reducible repeat (first | refine blk_drewN ?_ _ | refine blk_drew ?_ | refine blk_alloc ?_ _)); exact BK509.out⟩, ⟨by (with_reducible repeat (first | refine blk_drewN ?_ _ | refine blk_drew ?_ | refine blk_alloc ?_ _)); refine blk_put (cs := #[.int .i64 t511, .int .u64 t512, .slice none 0 0]) ?_ 2 _ rfl; (with_reducible repeat (first | refine blk_drewN ?_ _ | refine blk_drew ?_ | refine blk_alloc ?_ _)); refine blk_put (cs := #[.int .i64 t511, .int .u64 0, .slice none 0 0]) ?_ 1 _ rfl; (with_reducible repeat (first | refine blk_drewN ?_ _ | refine blk_drew ?_ | refine blk_alloc ?_ _)); refine blk_put (cs := #[.int .i64 0, .int .u64 0, .slice none 0 0]) ?_ 0 _ rfl; (with_reducible repeat (first | refine blk_drewN ?_ _ | refine blk_drew ?_ | refine blk_alloc ?_ _)); exact BK517.out⟩, ⟨by repeat (first | (with_reducible first | exact HB.out | apply below_alloc | apply pw_below_drewN | apply below_drew1 | refine below_set ?_ GE509.out | refine below_set ?_ GE517.out) | exact HB.out)⟩⟩
    · rw [if_neg c12] at H
      have c12b0 : (t516 == 0) = false := beq_eq_false_iff_ne.mpr c12
      have c12b1 : (t516 != 0) = true := bne_iff_ne.mpr c12
      (first | rw [c12b0] | (simp only [i64_w, i32_w]; rw [c12b0]) | skip)
      have H' := Aside0.mk H
      clear H
      go_wp2
      go_meet
      case rel => exact ⟨_, (true), (by first | rfl | (simp; done) | (simp [*]; done)), H', ⟨by first | omega | exact Nat.le_refl _⟩, ⟨by (with_reducible repeat (first | apply Kd.R_alloc | apply Kd.R_drewN | apply Kd.R_drew)); exact Kd.R_mono (Kd.R_far (p := ⟨gb517, 2, none⟩) (Kd.R_far (p := ⟨gb517, 1, none⟩) (Kd.R_far (p := ⟨gb517, 0, none⟩) (Kd.R_types HO515.out BK517.out (by decide)) (fun _ hk => hk.2) (.int .i64 t511)) (fun _ hk => hk.2) (.int .u64 t512)) (fun _ hk => hk.2) (.slice Ao11 t513.length co11)) (fun _ hk => trivial)⟩, ⟨by (with_reducible repeat (first | refine blk_drewN ?_ _ | refine blk_drew ?_ | refine blk_alloc ?_ _)); refine blk_far ?_ NB509_517.out _; (with_reducible repeat (first | refine blk_drewN ?_ _ | refine blk_drew ?_ | refine blk_alloc ?_ _)); refine blk_far ?_ NB509_517.out _; (with_reducible repeat (first | refine blk_drewN ?_ _ | refine blk_drew ?_ | refine blk_alloc ?_ _)); refine blk_far ?_ NB509_517.out _; (with_reducible repeat (first | refine blk_drewN ?_ _ | refine blk_drew ?_ | refine blk_alloc ?_ _)); exact BK509.out⟩, ⟨by (with_reducible repeat (first | refine blk_drewN ?_ _ | refine blk_drew ?_ | refine blk_alloc ?_ _)); refine blk_put (cs := #[.int .i64 t511, .int .u64 t512, .slice none 0 0]) ?_ 2 _ rfl; (with_reducible repeat (first | refine blk_drewN ?_ _ | refine blk_drew ?_ | refine blk_alloc ?_ _)); refine blk_put (cs := #[.int .i64 t511, .int .u64 0, .slice none 0 0]) ?_ 1 _ rfl; (with_reducible repeat (first | refine blk_drewN ?_ _ | refine blk_drew ?_ | refine blk_alloc ?_ _)); refine blk_put (cs := #[.int .i64 0, .int .u64 0, .slice none 0 0]) ?_ 0 _ rfl; (with_reducible repeat (first | refine blk_drewN ?_ _ | refine blk_drew ?_ | refine blk_alloc ?_ _)); exact BK517.out⟩, ⟨by repeat (first | (with_reducible first | exact HB.out | apply below_alloc | apply pw_below_drewN | apply below_drew1 | refine below_set ?_ GE509.out | refine below_set ?_ GE517.out) | exact HB.out)⟩⟩
  case rest =>
    clear HC5
    try clear c1
    try clear c2
    try clear p2
    try clear c3
    try clear p6
    try clear c9
    try clear c12
    try clear c12b0
    try clear c12b1
    try clear c13
    try clear hcz10_0
    try clear hcz10_1
    try clear hcz10_2
    try clear hcz14_0
    try clear hcz14_1
    try clear hcz14_2
    try clear hfz10_0
    try clear hfz10_1
    try clear hfz10_2
    try clear hfz14_0
    try clear hfz14_1
    try clear hfz14_2
    obtain ⟨kq, x33_4, rfl, HA, HJ4, HO_518002, BK509, BK517, HB⟩ := hcut
    cases kq with
    | zero => exact absurd HA.out (by simp [L05_made.j0])
    | succ kj4 =>
      have H := HA.out
      clear HA
      simp only [L05_made.j0] at H
      by_cases c15 : x33_4 = true
      · subst c15
        have H1 : (some (t511, t512, t513, ([] : List Int), false)) = some (r1, r2, r3, r4, r5) := by rw [if_pos rfl] at H; exact H
        clear H
        have H := H1
        clear H1
        simp only [Option.some.injEq, Prod.mk.injEq] at H
        obtain ⟨rfl, rfl, rfl, rfl, rfl⟩ := H
        have hnb16 := NB517_509.out
        have hnc16 := NB509_517.out
        have hcz17_0 : wc.cell? ⟨gb517, 0, none⟩ = some (.int .i64 t511) := (blk_cell BK517.out 0).trans rfl
        have hcz17_1 : wc.cell? ⟨gb517, 1, none⟩ = some (.int .u64 t512) := (blk_cell BK517.out 1).trans rfl
        have hcz17_2 : wc.cell? ⟨gb517, 2, none⟩ = some (.slice Ao11 t513.length co11) := (blk_cell BK517.out 2).trans rfl
        have hfz17_0 := blk_frozen BK517.out 0
        have hfz17_1 := blk_frozen BK517.out 1
        have hfz17_2 := blk_frozen BK517.out 2
        have hcz18_0 : wc.cell? ⟨gb509, 0, none⟩ = some (.int .i64 0) := (blk_cell BK509.out 0).trans rfl
        have hcz18_1 : wc.cell? ⟨gb509, 1, none⟩ = some (.int .u64 0) := (blk_cell BK509.out 1).trans rfl
        have hcz18_2 : wc.cell? ⟨gb509, 2, none⟩ = some (.slice none 0 0) := (blk_cell BK509.out 2).trans rfl
        have hfz18_0 := blk_frozen BK509.out 0
        have hfz18_1 := blk_frozen BK509.out 1
        have hfz18_2 := blk_frozen BK509.out 2
        go_wp2
        all_goals refine bodyPost_ret (results_ctt rfl _ _ gb509 25 #[.int .i64 t511, .int .u64 t512, .slice Ao11 t513.length co11] (0, 0) _ rfl (by (with_reducible repeat (first | refine blk_drewN ?_ _ | refine blk_drew ?_ | refine blk_alloc ?_ _)); refine blk_put (cs := #[.int .i64 t511, .int .u64 t512, .slice none 0 0]) ?_ 2 _ rfl; (with_reducible repeat (first | refine blk_drewN ?_ _ | refine blk_drew ?_ | refine blk_alloc ?_ _)); refine blk_put (cs := #[.int .i64 t511, .int .u64 0, .slice none 0 0]) ?_ 1 _ rfl; (with_reducible repeat (first | refine blk_drewN ?_ _ | refine blk_drew ?_ | refine blk_alloc ?_ _)); refine blk_put (cs := #[.int .i64 0, .int .u64 0, .slice none 0 0]) ?_ 0 _ rfl; (with_reducible repeat (first | refine blk_drewN ?_ _ | refine blk_drew ?_ | refine blk_alloc ?_ _)); exact BK509.out) Try.underlying25 rfl (by kernel_rfl)) rfl ?_
        all_goals exact ⟨_, _, by first | rfl | (simp [errW_none, errW_some] <;> rfl) | (simp [*, errW_none, errW_some] <;> rfl), by (with_reducible repeat (first | apply Kd.R_alloc | apply Kd.R_drewN | apply Kd.R_drew)); exact Kd.R_mono (Kd.R_far (p := ⟨gb509, 2, none⟩) (Kd.R_far (p := ⟨gb509, 1, none⟩) (Kd.R_far (p := ⟨gb509, 0, none⟩) (Kd.R_types HO_518002.out BK509.out (by decide)) (fun _ hk => hk.2) (.int .i64 t511)) (fun _ hk => hk.2) (.int .u64 t512)) (fun _ hk => hk.2) (.slice Ao11 t513.length co11)) (fun _ hk => trivial), by first | exact Kd.R_nil _ _ _ _ _ | exact Kd.N_nil _ _ _ _ _ | exact Kd.V_nil _ _ _ _ _ | exact Kd.Q_nil _ _ _ _ _ | exact Kd.S_nil _ _ _ _ _, by repeat (first | (with_reducible first | exact HB.out | apply below_alloc | apply pw_below_drewN | apply below_drew1 | refine below_set ?_ GE509.out | refine below_set ?_ GE517.out) | exact HB.out)⟩
      · replace c15 := Bool.eq_false_iff.mpr c15
        subst c15
        have H1 : (L05_made.l0 kj4 l1 (wrap64 (1 + t510)) ([] : List Int) 0 t511 t512 t513) = some (r1, r2, r3, r4, r5) := by rw [if_neg (show ¬ (false = true) by decide)] at H; exact H
        clear H
        have H := H1
        clear H1
        have H' := Aside0.mk H
        clear H
        go_wp2
        go_loopg [10, 11] kj4 (fun kq v10 v11 w' => ∃ (x10_2 : List Int) (x11_2 : Int) (x510000_2 : Int) (x510001_2 : Int) (x518000_2 : Int) (x518001_2 : Int) (x518002_2 : List (S35)) (u518002 : Value), v11 = .int .i64 x11_2 ∧ Aside0 (L05_made.l0 kq l1 (wrap64 (1 + t510)) x10_2 x11_2 x518000_2 x518001_2 x518002_2 = some (r1, r2, r3, r4, r5)) ∧ Aside0 (kq ≤ kj4) ∧ Aside0 (Kd.R (Kd.int .u64) 22 w' w.heap.size (fun _ => True) v10 x10_2) ∧ Aside0 (Kd.R k35 35 w' w.heap.size (fun _ => True) u518002 x518002_2) ∧ Aside0 (w'.heap[gb509]? = some (.cells #[.int .i64 x510000_2, .int .u64 x510001_2, (.slice none 0 0)] 25 (0, 0))) ∧ Aside0 (w'.heap[gb517]? = some (.cells #[.int .i64 x518000_2, .int .u64 x518001_2, u518002] 25 (0, 0))) ∧ Aside0 (Below w.heap.size w w'))
        case atStart => exact ⟨(([] : List Int)), (0), (0), (0), (t511), (t512), (t513), (.slice Ao11 t513.length co11), (by first | rfl | (simp; done) | (simp [*]; done)), H', ⟨Nat.le_refl _⟩, ⟨by first | exact Kd.R_nil _ _ _ _ _ | exact Kd.N_nil _ _ _ _ _ | exact Kd.V_nil _ _ _ _ _ | exact Kd.Q_nil _ _ _ _ _ | exact Kd.S_nil _ _ _ _ _⟩, ⟨by (with_reducible repeat (first | apply Kd.R_alloc | apply Kd.R_drewN | apply Kd.R_drew)); exact HO_518002.out⟩, ⟨by (with_reducible repeat (first | refine blk_drewN ?_ _ | refine blk_drew ?_ | refine blk_alloc ?_ _)); exact BK509.out⟩, ⟨by (with_reducible repeat (first | refine blk_drewN ?_ _ | refine blk_drew ?_ | refine blk_alloc ?_ _)); exact BK517.out⟩, ⟨by repeat (first | (with_reducible first | exact HB.out | apply below_alloc | apply pw_below_drewN | apply below_drew1 | refine below_set ?_ GE509.out | refine below_set ?_ GE517.out) | exact HB.out)⟩⟩
        case round =>
          clear H'
          try clear c1
          try clear c2
          try clear p2
          try clear c3
          try clear p6
          try clear c9
          try clear c12
          try clear c12b0
          try clear c12b1
          try clear c13
          try clear c15
          try clear c16
          try clear hcz10_0
          try clear hcz10_1
          try clear hcz10_2
          try clear hcz14_0
          try clear hcz14_1
          try clear hcz14_2
          try clear hcz17_0
          try clear hcz17_1
          try clear hcz17_2
          try clear hcz18_0
          try clear hcz18_1
          try clear hcz18_2
          try clear hfz10_0
          try clear hfz10_1
          try clear hfz10_2
          try clear hfz14_0
          try clear hfz14_1
          try clear hfz14_2
          try clear hfz17_0
          try clear hfz17_1
          try clear hfz17_2
          try clear hfz18_0
          try clear hfz18_1
          try clear hfz18_2
          try clear p2
          try clear p6
          obtain ⟨x10_2, x11_2, x510000_2, x510001_2, x518000_2, x518001_2, x518002_2, u518002, rfl, HA, HK2, HO_10, HO_518002, BK509, BK517, HB⟩ := hrel
          cases gk with
          | zero => exact absurd HA.out (by simp [L05_made.l0])
          | succ k2 =>
            have H := HA.out
            clear HA
            simp only [L05_made.l0] at H
            have HC19 := Aside0.mk H
            clear H
            go_upto_region 7 with (fail)
            go_cut [42] (fun v42 wc => ∃ (kq : Nat) (x42_18 : Bool), v42 = .bool x42_18 ∧ Aside0 (L05_made.j2 kq l1 (wrap64 (1 + t510)) x10_2 x11_2 x42_18 x518000_2 x518001_2 x518002_2 = some (r1, r2, r3, r4, r5)) ∧ Aside0 (kq ≤ k2) ∧ Aside0 (Kd.R (Kd.int .u64) 22 wc w.heap.size (fun _ => True) u10 x10_2) ∧ Aside0 (Kd.R k35 35 wc w.heap.size (fun _ => True) u518002 x518002_2) ∧ Aside0 (wc.heap[gb509]? = some (.cells #[.int .i64 x510000_2, .int .u64 x510001_2, (.slice none 0 0)] 25 (0, 0))) ∧ Aside0 (wc.heap[gb517]? = some (.cells #[.int .i64 x518000_2, .int .u64 x518001_2, u518002] 25 (0, 0))) ∧ Aside0 (Below w.heap.size w wc))
            case first =>
              have H := HC19.out
              clear HC19
              by_cases c20 : x11_2 < (l1.length : Int)
              · rw [if_pos c20] at H
                have c20b0 : decide (x11_2 < (l1.length : Int)) = true := decide_eq_true c20
                clear c20
                (first | rw [c20b0] | (simp only [i64_w, i32_w]; rw [c20b0]) | skip)
                have H' := Aside0.mk H
                clear H
                go_wp2
                go_meet
                case rel => exact ⟨_, (decide (x11_2 < 60)), (by first | rfl | (simp; done) | (simp [*]; done)), H', ⟨by have := HJ4.out; have := HK2.out; first | omega | exact Nat.le_refl _⟩, ⟨by (with_reducible repeat (first | apply Kd.R_alloc | apply Kd.R_drewN | apply Kd.R_drew)); exact HO_10.out⟩, ⟨by (with_reducible repeat (first | apply Kd.R_alloc | apply Kd.R_drewN | apply Kd.R_drew)); exact HO_518002.out⟩, ⟨by (with_reducible repeat (first | refine blk_drewN ?_ _ | refine blk_drew ?_ | refine blk_alloc ?_ _)); exact BK509.out⟩, ⟨by (with_reducible repeat (first | refine blk_drewN ?_ _ | refine blk_drew ?_ | refine blk_alloc ?_ _)); exact BK517.out⟩, ⟨by repeat (first | (with_reducible first | exact HB.out | apply below_alloc | apply pw_below_drewN | apply below_drew1 | refine below_set ?_ GE509.out | refine below_set ?_ GE517.out) | exact HB.out)⟩⟩
              · rw [if_neg c20] at H
                have c20b0 : decide (x11_2 < (l1.length : Int)) = false := decide_eq_false c20
                clear c20
                (first | rw [c20b0] | (simp only [i64_w, i32_w]; rw [c20b0]) | skip)
                have H' := Aside0.mk H
                clear H
                go_wp2
                go_meet
                case rel => exact ⟨_, (false), (by first | rfl | (simp; done) | (simp [*]; done)), H', ⟨by have := HJ4.out; have := HK2.out; first | omega | exact Nat.le_refl _⟩, ⟨by (with_reducible repeat (first | apply Kd.R_alloc | apply Kd.R_drewN | apply Kd.R_drew)); exact HO_10.out⟩, ⟨by (with_reducible repeat (first | apply Kd.R_alloc | apply Kd.R_drewN | apply Kd.R_drew)); exact HO_518002.out⟩, ⟨by (with_reducible repeat (first | refine blk_drewN ?_ _ | refine blk_drew ?_ | refine blk_alloc ?_ _)); exact BK509.out⟩, ⟨by (with_reducible repeat (first | refine blk_drewN ?_ _ | refine blk_drew ?_ | refine blk_alloc ?_ _)); exact BK517.out⟩, ⟨by repeat (first | (with_reducible first | exact HB.out | apply below_alloc | apply pw_below_drewN | apply below_drew1 | refine below_set ?_ GE509.out | refine below_set ?_ GE517.out) | exact HB.out)⟩⟩
            case rest =>
              clear HC19
              try clear c1
              try clear c2
              try clear p2
              try clear c3
              try clear p6
              try clear c9
              try clear c12
              try clear c12b0
              try clear c12b1
              try clear c13
              try clear c15
              try clear c16
              try clear c20
              try clear c20b0
              try clear hcz10_0
              try clear hcz10_1
              try clear hcz10_2
              try clear hcz14_0
              try clear hcz14_1
              try clear hcz14_2
              try clear hcz17_0
              try clear hcz17_1
              try clear hcz17_2
              try clear hcz18_0
              try clear hcz18_1
              try clear hcz18_2
              try clear hfz10_0
              try clear hfz10_1
              try clear hfz10_2
              try clear hfz14_0
              try clear hfz14_1
              try clear hfz14_2
              try clear hfz17_0
              try clear hfz17_1
              try clear hfz17_2
              try clear hfz18_0
              try clear hfz18_1
              try clear hfz18_2
              try clear p2
              try clear p6
              obtain ⟨kq, x42_18, rfl, HA, HJ18, HO_10, HO_518002, BK509, BK517, HB⟩ := hcut
              cases kq with
              | zero => exact absurd HA.out (by simp [L05_made.j2])
              | succ kj18 =>
                have H := HA.out
                clear HA
                simp only [L05_made.j2] at H
                by_cases c21 : x42_18 = true
                · subst c21
                  have H1 : (if 0 ≤ x11_2 then (if x11_2 < (l1.length : Int) then ((K_Mod.f (rd l1 x11_2) 1048576).bind fun t521 => (if (Int.tmod t521 6) < 4 then ((ring_Put.f x518000_2 x518001_2 x518002_2 (Int.tmod (wrap64 (Int.tdiv t521 6)) 5)).bind fun bt523 => (if bt523.2.2.2.2 = 0 then (if x10_2.length < 17592186044416 then (L05_made.j3 kj18 l1 (wrap64 (1 + t510)) (x10_2 ++ [bt523.2.2.2.1]) x11_2 bt523.2.2.2.2 x518000_2 x518001_2 x518002_2 bt523.1 bt523.2.1 bt523.2.2.1) else (none)) else (L05_made.j3 kj18 l1 (wrap64 (1 + t510)) x10_2 x11_2 bt523.2.2.2.2 x518000_2 x518001_2 x518002_2 bt523.1 bt523.2.1 bt523.2.2.1))) else (if (Int.tmod t521 6) = 4 then ((ring_Drop.f x518000_2 x518001_2 x518002_2 (IntKind.u64.wrap (wrap64 (1 + (Int.tmod (wrap64 (Int.tdiv t521 6)) 40))))).bind fun bt533 => (L05_made.j3 kj18 l1 (wrap64 (1 + t510)) x10_2 x11_2 bt533.2.2.2.2.2 x518000_2 x518001_2 x518002_2 bt533.1 bt533.2.1 bt533.2.2.1)) else ((ring_Wipe.f x518000_2 x518001_2 x518002_2 (([Int.tmod (wrap64 (Int.tdiv t521 6)) 9] : List Int))).bind fun bt544 => (L05_made.j3 kj18 l1 (wrap64 (1 + t510)) x10_2 x11_2 bt544.2.2.2.2 x518000_2 x518001_2 x518002_2 bt544.1 bt544.2.1 bt544.2.2.1))))) else (none)) else (none)) = some (r1, r2, r3, r4, r5) := by rw [if_pos rfl] at H; exact H
                  clear H
                  have H := H1
                  clear H1
                  by_cases c22 : 0 ≤ x11_2
                  rotate_left
                  · rw [if_neg c22] at H
                    exact absurd H (by simp)
                  rw [if_pos c22] at H
                  have c22b0 : decide (0 ≤ x11_2) = true := decide_eq_true c22
                  clear c22
                  by_cases c23 : x11_2 < (l1.length : Int)
                  rotate_left
                  · rw [if_neg c23] at H
                    exact absurd H (by simp)
                  rw [if_pos c23] at H
                  have c23b0 : decide (x11_2 < (l1.length : Int)) = true := decide_eq_true c23
                  clear c23
                  replace H := Option.bind_eq_some_iff.mp H
                  obtain ⟨t521, A240, H⟩ := H
                  replace H : (if (Int.tmod t521 6) < 4 then ((ring_Put.f x518000_2 x518001_2 x518002_2 (Int.tmod (wrap64 (Int.tdiv t521 6)) 5)).bind fun bt523 => (if bt523.2.2.2.2 = 0 then (if x10_2.length < 17592186044416 then (L05_made.j3 kj18 l1 (wrap64 (1 + t510)) (x10_2 ++ [bt523.2.2.2.1]) x11_2 bt523.2.2.2.2 x518000_2 x518001_2 x518002_2 bt523.1 bt523.2.1 bt523.2.2.1) else (none)) else (L05_made.j3 kj18 l1 (wrap64 (1 + t510)) x10_2 x11_2 bt523.2.2.2.2 x518000_2 x518001_2 x518002_2 bt523.1 bt523.2.1 bt523.2.2.1))) else (if (Int.tmod t521 6) = 4 then ((ring_Drop.f x518000_2 x518001_2 x518002_2 (IntKind.u64.wrap (wrap64 (1 + (Int.tmod (wrap64 (Int.tdiv t521 6)) 40))))).bind fun bt533 => (L05_made.j3 kj18 l1 (wrap64 (1 + t510)) x10_2 x11_2 bt533.2.2.2.2.2 x518000_2 x518001_2 x518002_2 bt533.1 bt533.2.1 bt533.2.2.1)) else ((ring_Wipe.f x518000_2 x518001_2 x518002_2 (([Int.tmod (wrap64 (Int.tdiv t521 6)) 9] : List Int))).bind fun bt544 => (L05_made.j3 kj18 l1 (wrap64 (1 + t510)) x10_2 x11_2 bt544.2.2.2.2 x518000_2 x518001_2 x518002_2 bt544.1 bt544.2.1 bt544.2.2.1)))) = some (r1, r2, r3, r4, r5) := H
                  have A24 := Aside0.mk A240
                  clear A240
                  have HC25 := Aside0.mk H
                  clear H
                  have p520 : 0 ≤ (x11_2 : Int) := of_decide_eq_true (by first | (with_reducible assumption) | assumption)
                  have q520 : x11_2 < (l1.length : Int) := of_decide_eq_true (by first | (with_reducible assumption) | assumption)
                  obtain ⟨ad520, e520, hx520_0⟩ := Kd.at_int HR1.out x11_2 p520 q520
                  cases e520
                  replace hx520_0 := (HB.out.cell (World.block_lt_of_cell? w _ hx520_0)).trans hx520_0
                  replace p520 := eq_true p520
                  replace q520 := eq_true q520
                  go_upto_block 2 with (first | ((with_reducible refine gate_callee (f := 37) rfl ?_); refine goesL_ (some 49) rfl rfl Try.func37 (by kernel_rfl) rfl #[.int .i64 (rd l1 x11_2), .int .i64 1048576] rfl (by (try simp only [List.map_toArray, List.map_cons, List.map_nil]); first | done | rfl | (simp only [List.length_drop, List.length_take]; rfl)) ?_; (with_reducible refine (K_Mod.calls (rd l1 x11_2) 1048576 t521 _ A24.out).mono ?_); rintro e w' ⟨rfl, ⟨nd, rfl⟩⟩; refine ⟨_, rfl, ?_⟩; (try (rw [drewN_self wc]; generalize hq_ : World.drewN wc _ = wc; have n0_ : Aside0 (Kd.R (Kd.int .u64) 22 wc w.heap.size (fun _ => True) u10 x10_2) := ⟨by rw [← hq_]; exact (by (with_reducible repeat (first | apply Kd.R_alloc | apply Kd.R_drewN | apply Kd.R_drew)); exact HO_10.out)⟩; have n1_ : Aside0 (Kd.R k35 35 wc w.heap.size (fun _ => True) u518002 x518002_2) := ⟨by rw [← hq_]; exact (by (with_reducible repeat (first | apply Kd.R_alloc | apply Kd.R_drewN | apply Kd.R_drew)); exact HO_518002.out)⟩; have n2_ : Aside0 (wc.heap[gb509]? = some (.cells #[.int .i64 x510000_2, .int .u64 x510001_2, .slice none 0 0] 25 (0, 0))) := ⟨by rw [← hq_]; exact (by (with_reducible repeat (first | refine blk_drewN ?_ _ | refine blk_drew ?_ | refine blk_alloc ?_ _)); exact BK509.out)⟩; have n3_ : Aside0 (wc.heap[gb517]? = some (.cells #[.int .i64 x518000_2, .int .u64 x518001_2, u518002] 25 (0, 0))) := ⟨by rw [← hq_]; exact (by (with_reducible repeat (first | refine blk_drewN ?_ _ | refine blk_drew ?_ | refine blk_alloc ?_ _)); exact BK517.out)⟩; have n4_ : Aside0 (Below w.heap.size w wc) := ⟨by rw [← hq_]; exact (by repeat (first | (with_reducible first | exact HB.out | apply below_alloc | apply pw_below_drewN | apply below_drew1 | refine below_set ?_ GE509.out | refine below_set ?_ GE517.out) | exact HB.out))⟩; clear HO_10 HO_518002 BK509 BK517 HB hq_; have HO_10 := n0_; have HO_518002 := n1_; have BK509 := n2_; have BK517 := n3_; have HB := n4_; clear n0_ n1_ n2_ n3_ n4_)); have hnb26 := NB517_509.out; have hnc26 := NB509_517.out; have hcz27_0 : wc.cell? ⟨gb517, 0, none⟩ = some (.int .i64 x518000_2) := (blk_cell BK517.out 0).trans rfl; have hcz27_1 : wc.cell? ⟨gb517, 1, none⟩ = some (.int .u64 x518001_2) := (blk_cell BK517.out 1).trans rfl; have hcz27_2 : wc.cell? ⟨gb517, 2, none⟩ = some (u518002) := (blk_cell BK517.out 2).trans rfl; have hfz27_0 := blk_frozen BK517.out 0; have hfz27_1 := blk_frozen BK517.out 1; have hfz27_2 := blk_frozen BK517.out 2) | ((with_reducible refine gate_dst (N := 13) rfl ?_); refine box_event ?hg (N := 13) ?hd (cs := #[.int .i64 0, .int .u64 0, .slice none 0 0]) (t := 25) ?hr ?_; (case hd => rfl); (case hg => rfl); (case hr => first | (go_simp; done) | (go_simp; rfl)); intro gb522 hg w28 hbox hb; have n0_ := Aside0.mk (Kd.R_below (by (with_reducible repeat (first | apply Kd.R_alloc | apply Kd.R_drewN | apply Kd.R_drew)); exact HO_10.out) hb); have n1_ := Aside0.mk (Kd.R_below (by (with_reducible repeat (first | apply Kd.R_alloc | apply Kd.R_drewN | apply Kd.R_drew)); exact HO_518002.out) hb); have n2_ := Aside0.mk (blk_below (g := gb509) (o := .cells #[.int .i64 x510000_2, .int .u64 x510001_2, .slice none 0 0] 25 (0, 0)) (by (with_reducible repeat (first | refine blk_drewN ?_ _ | refine blk_drew ?_ | refine blk_alloc ?_ _)); exact BK509.out) hb); have n3_ := Aside0.mk (blk_below (g := gb517) (o := .cells #[.int .i64 x518000_2, .int .u64 x518001_2, u518002] 25 (0, 0)) (by (with_reducible repeat (first | refine blk_drewN ?_ _ | refine blk_drew ?_ | refine blk_alloc ?_ _)); exact BK517.out) hb); have n4_ := Aside0.mk (below_step (by repeat (first | (with_reducible first | exact HB.out | apply below_alloc | apply pw_below_drewN | apply below_drew1 | refine below_set ?_ GE509.out | refine below_set ?_ GE517.out) | exact HB.out)) hb); have n5_ := Aside0.mk (hbox); have n6_ := Aside0.mk ((by rw [hg]; exact (below_size (by repeat (first | (with_reducible first | exact HB.out | apply below_alloc | apply pw_below_drewN | apply below_drew1 | refine below_set ?_ GE509.out | refine below_set ?_ GE517.out) | exact HB.out))) : w.heap.size ≤ gb522)); have n7_ := Aside0.mk ((by rw [hg]; exact (below_size (by repeat (first | (with_reducible first | exact HB.out | apply below_alloc | apply pw_below_drewN | apply below_drew1 | refine below_set ?_ GE509.out | refine below_set ?_ GE517.out) | exact HB.out))) : w.heap.size ≤ gb522)); have n8_ := Aside0.mk ((by rw [hg]; exact Nat.ne_of_lt (blk_lt (g := gb509) (o := .cells #[.int .i64 x510000_2, .int .u64 x510001_2, .slice none 0 0] 25 (0, 0)) (by (with_reducible repeat (first | refine blk_drewN ?_ _ | refine blk_drew ?_ | refine blk_alloc ?_ _)); exact BK509.out)) : gb509 ≠ gb522)); have n9_ := Aside0.mk ((by rw [hg]; exact Nat.ne_of_gt (blk_lt (g := gb509) (o := .cells #[.int .i64 x510000_2, .int .u64 x510001_2, .slice none 0 0] 25 (0, 0)) (by (with_reducible repeat (first | refine blk_drewN ?_ _ | refine blk_drew ?_ | refine blk_alloc ?_ _)); exact BK509.out)) : gb522 ≠ gb509)); have n10_ := Aside0.mk ((by rw [hg]; exact Nat.ne_of_lt (blk_lt (g := gb517) (o := .cells #[.int .i64 x518000_2, .int .u64 x518001_2, u518002] 25 (0, 0)) (by (with_reducible repeat (first | refine blk_drewN ?_ _ | refine blk_drew ?_ | refine blk_alloc ?_ _)); exact BK517.out)) : gb517 ≠ gb522)); have n11_ := Aside0.mk ((by rw [hg]; exact Nat.ne_of_gt (blk_lt (g := gb517) (o := .cells #[.int .i64 x518000_2, .int .u64 x518001_2, u518002] 25 (0, 0)) (by (with_reducible repeat (first | refine blk_drewN ?_ _ | refine blk_drew ?_ | refine blk_alloc ?_ _)); exact BK517.out)) : gb522 ≠ gb517)); clear HO_10; clear HO_518002; clear BK509; clear BK517; clear HB; have HO_10 := n0_; have HO_518002 := n1_; have BK509 := n2_; have BK517 := n3_; have HB := n4_; have BK522 := n5_; have GW522 := n6_; have GE522 := n7_; have NB509_522 := n8_; have NB522_509 := n9_; have NB517_522 := n10_; have NB522_517 := n11_; clear n0_ n1_ n2_ n3_ n4_ n5_ n6_ n7_ n8_ n9_ n10_ n11_; clear hb hbox hg; have hnb29 := NB522_509.out; have hnc29 := NB509_522.out; have hnb30 := NB522_517.out; have hnc30 := NB517_522.out; have hcz31_0 : w28.cell? ⟨gb522, 0, none⟩ = some (.int .i64 0) := (blk_cell BK522.out 0).trans rfl; have hcz31_1 : w28.cell? ⟨gb522, 1, none⟩ = some (.int .u64 0) := (blk_cell BK522.out 1).trans rfl; have hcz31_2 : w28.cell? ⟨gb522, 2, none⟩ = some (.slice none 0 0) := (blk_cell BK522.out 2).trans rfl; have hfz31_0 := blk_frozen BK522.out 0; have hfz31_1 := blk_frozen BK522.out 1; have hfz31_2 := blk_frozen BK522.out 2; obtain ⟨Ao32, co32, eo32⟩ := Kd.R_slice HO_518002.out; subst eo32))
                  (try simp only [Act.put, List.setIfInBounds_toArray, List.set_cons_zero, List.set_cons_succ])
                  go_cut [10, 14] (fun v10 v14 wc => ∃ (kq : Nat) (x10_24 : List Int) (x14_24 : Int) (x523000_24 : Int) (x523001_24 : Int) (x523002_24 : List (S35)) (u523002 : Value), v14 = .int .i64 x14_24 ∧ Aside0 (L05_made.j3 kq l1 (wrap64 (1 + t510)) x10_24 x11_2 x14_24 x518000_2 x518001_2 x518002_2 x523000_24 x523001_24 x523002_24 = some (r1, r2, r3, r4, r5)) ∧ Aside0 (kq ≤ kj18) ∧ Aside0 (Kd.R (Kd.int .u64) 22 wc w.heap.size (fun _ => True) v10 x10_24) ∧ Aside0 (Kd.R k35 35 wc w.heap.size (fun _ => True) (.slice Ao32 x518002_2.length co32) x518002_2) ∧ Aside0 (Kd.R k35 35 wc w.heap.size (fun _ => True) u523002 x523002_24) ∧ Aside0 (wc.heap[gb509]? = some (.cells #[.int .i64 x510000_2, .int .u64 x510001_2, (.slice none 0 0)] 25 (0, 0))) ∧ Aside0 (wc.heap[gb517]? = some (.cells #[.int .i64 x518000_2, .int .u64 x518001_2, (.slice Ao32 x518002_2.length co32)] 25 (0, 0))) ∧ Aside0 (wc.heap[gb522]? = some (.cells #[.int .i64 x523000_24, .int .u64 x523001_24, u523002] 25 (0, 0))) ∧ Aside0 (Below w.heap.size w wc))
                  case first =>
                    have H := HC25.out
                    clear HC25
                    by_cases c33 : (Int.tmod t521 6) < 4
                    · rw [if_pos c33] at H
                      have c33b0 : decide ((Int.tmod t521 6) < 4) = true := decide_eq_true c33
                      clear c33
                      (first | rw [c33b0] | (simp only [i64_w, i32_w]; rw [c33b0]) | skip)
                      replace H := Option.bind_eq_some_iff.mp H
                      obtain ⟨⟨t523, t524, t525, t528, t529⟩, A340, H⟩ := H
                      replace H : (if t529 = 0 then (if x10_2.length < 17592186044416 then (L05_made.j3 kj18 l1 (wrap64 (1 + t510)) (x10_2 ++ [t528]) x11_2 t529 x518000_2 x518001_2 x518002_2 t523 t524 t525) else (none)) else (L05_made.j3 kj18 l1 (wrap64 (1 + t510)) x10_2 x11_2 t529 x518000_2 x518001_2 x518002_2 t523 t524 t525)) = some (r1, r2, r3, r4, r5) := H
                      have A34 := Aside0.mk A340
                      clear A340
                      by_cases c35 : t529 = 0
                      · rw [if_pos c35] at H
                        have c35b0 : (t529 == 0) = true := beq_iff_eq.mpr c35
                        have c35b1 : (t529 != 0) = false := bne_eq_false_iff_eq.mpr c35
                        clear c35
                        by_cases c36 : x10_2.length < 17592186044416
                        rotate_left
                        · rw [if_neg c36] at H
                          exact absurd H (by simp)
                        rw [if_pos c36] at H
                        have LMc36 := Aside0.mk c36
                        clear c36
                        obtain ⟨y530, hy530⟩ : ∃ y_ : List Int, y_ = (x10_2 ++ [t528]) := ⟨_, rfl⟩
                        replace H : (L05_made.j3 kj18 l1 (wrap64 (1 + t510)) y530 x11_2 t529 x518000_2 x518001_2 x518002_2 t523 t524 t525) = some (r1, r2, r3, r4, r5) := by first | (rw [hy530]; with_reducible exact H) | (have H2_ := (Option.bind_some _ _).symm.trans H; rw [hy530]; with_reducible exact H2_) | (have H2_ := (Option.bind_some _ _).symm.trans H; with_reducible exact H2_) | with_reducible exact H | (rw [hy530]; exact H) | exact H
                        have Ny530 := Aside0.mk hy530
                        clear hy530
                        have H' := Aside0.mk H
                        clear H
                        have hnb37 := NB517_509.out
                        have hnc37 := NB509_517.out
                        have hnb38 := NB517_522.out
                        have hnc38 := NB522_517.out
                        have hcz39_0 : w28.cell? ⟨gb517, 0, none⟩ = some (.int .i64 x518000_2) := (blk_cell BK517.out 0).trans rfl
                        have hcz39_1 : w28.cell? ⟨gb517, 1, none⟩ = some (.int .u64 x518001_2) := (blk_cell BK517.out 1).trans rfl
                        have hcz39_2 : w28.cell? ⟨gb517, 2, none⟩ = some (.slice Ao32 x518002_2.length co32) := (blk_cell BK517.out 2).trans rfl
                        have hfz39_0 := blk_frozen BK517.out 0
                        have hfz39_1 := blk_frozen BK517.out 1
                        have hfz39_2 := blk_frozen BK517.out 2
                        go_wp2_with (first | ((with_reducible refine gate_callee (f := 12) rfl ?_); refine goesL_ (some 70) rfl rfl Try.func12 (by kernel_rfl) rfl #[.agg #[.int .i64 x518000_2, .int .u64 x518001_2, .slice Ao32 x518002_2.length co32], .int .i64 (Int.tmod (wrap64 (Int.tdiv t521 6)) 5)] rfl (by (try simp only [List.map_toArray, List.map_cons, List.map_nil]); first | done | rfl | (simp only [List.length_drop, List.length_take]; rfl)) ?_; (with_reducible refine (ring_Put.calls x518000_2 x518001_2 _ _ x518002_2 (Int.tmod (wrap64 (Int.tdiv t521 6)) 5) t523 t524 t525 t528 t529 _ ?side1 ?side2 A34.out).mono ?_); (case side1 => refine (Kd.R_reads' (e := 35) (base := w.heap.size) (ok := fun k_ => True) (n := x518002_2.length) (c := co32) ?_).2.2; exact (by (with_reducible repeat (first | apply Kd.R_alloc | apply Kd.R_drewN | apply Kd.R_drew)); exact (Kd.R_mono (Kd.R_far (p := ⟨gb522, 2, none⟩) (Kd.R_far (p := ⟨gb522, 1, none⟩) (Kd.R_far (p := ⟨gb522, 0, none⟩) (Kd.R_types HO_518002.out BK522.out (by decide)) (fun _ hk => hk.2) (.int .i64 x518000_2)) (fun _ hk => hk.2) (.int .u64 x518001_2)) (fun _ hk => hk.2) (.slice Ao32 x518002_2.length co32)) (fun _ h_ => h_.1)))); (case side2 => exact (Kd.R_reads' HO_518002.out).2.1); rintro e w40 ⟨v526, rfl, ho0, hb⟩; refine ⟨_, rfl, ?_⟩; have n0_ := Aside0.mk (Kd.R_below (by (with_reducible repeat (first | apply Kd.R_alloc | apply Kd.R_drewN | apply Kd.R_drew)); exact (Kd.R_mono (Kd.R_far (p := ⟨gb522, 2, none⟩) (Kd.R_far (p := ⟨gb522, 1, none⟩) (Kd.R_far (p := ⟨gb522, 0, none⟩) (Kd.R_types HO_10.out BK522.out (by decide)) (fun _ hk => hk.2) (.int .i64 x518000_2)) (fun _ hk => hk.2) (.int .u64 x518001_2)) (fun _ hk => hk.2) (.slice Ao32 x518002_2.length co32)) (fun _ h_ => h_.1))) hb); have n1_ := Aside0.mk (Kd.R_elder' (by (with_reducible repeat (first | apply Kd.R_alloc | apply Kd.R_drewN | apply Kd.R_drew)); exact (Kd.R_mono (Kd.R_far (p := ⟨gb522, 2, none⟩) (Kd.R_far (p := ⟨gb522, 1, none⟩) (Kd.R_far (p := ⟨gb522, 0, none⟩) (Kd.R_types HO_518002.out BK522.out (by decide)) (fun _ hk => hk.2) (.int .i64 x518000_2)) (fun _ hk => hk.2) (.int .u64 x518001_2)) (fun _ hk => hk.2) (.slice Ao32 x518002_2.length co32)) (fun _ h_ => h_.1))) (Kd.R_base ho0) hb); have n2_ := Aside0.mk (Kd.R_lower (Kd.R_new' ho0 (Kd.R_lt (by (with_reducible repeat (first | apply Kd.R_alloc | apply Kd.R_drewN | apply Kd.R_drew)); exact (Kd.R_mono (Kd.R_far (p := ⟨gb522, 2, none⟩) (Kd.R_far (p := ⟨gb522, 1, none⟩) (Kd.R_far (p := ⟨gb522, 0, none⟩) (Kd.R_types HO_518002.out BK522.out (by decide)) (fun _ hk => hk.2) (.int .i64 x518000_2)) (fun _ hk => hk.2) (.int .u64 x518001_2)) (fun _ hk => hk.2) (.slice Ao32 x518002_2.length co32)) (fun _ h_ => h_.1))))) (below_size (by repeat (first | (with_reducible first | exact HB.out | apply below_alloc | apply pw_below_drewN | apply below_drew1 | refine below_set ?_ GE509.out | refine below_set ?_ GE517.out | refine below_set ?_ GE522.out) | exact HB.out)))); have n3_ := Aside0.mk (blk_below (g := gb509) (o := .cells #[.int .i64 x510000_2, .int .u64 x510001_2, .slice none 0 0] 25 (0, 0)) (by (with_reducible repeat (first | refine blk_drewN ?_ _ | refine blk_drew ?_ | refine blk_alloc ?_ _)); refine blk_far ?_ NB509_522.out _; (with_reducible repeat (first | refine blk_drewN ?_ _ | refine blk_drew ?_ | refine blk_alloc ?_ _)); refine blk_far ?_ NB509_522.out _; (with_reducible repeat (first | refine blk_drewN ?_ _ | refine blk_drew ?_ | refine blk_alloc ?_ _)); refine blk_far ?_ NB509_522.out _; (with_reducible repeat (first | refine blk_drewN ?_ _ | refine blk_drew ?_ | refine blk_alloc ?_ _)); exact BK509.out) hb); have n4_ := Aside0.mk (blk_below (g := gb517) (o := .cells #[.int .i64 x518000_2, .int .u64 x518001_2, .slice Ao32 x518002_2.length co32] 25 (0, 0)) (by (with_reducible repeat (first | refine blk_drewN ?_ _ | refine blk_drew ?_ | refine blk_alloc ?_ _)); refine blk_far ?_ NB517_522.out _; (with_reducible repeat (first | refine blk_drewN ?_ _ | refine blk_drew ?_ | refine blk_alloc ?_ _)); refine blk_far ?_ NB517_522.out _; (with_reducible repeat (first | refine blk_drewN ?_ _ | refine blk_drew ?_ | refine blk_alloc ?_ _)); refine blk_far ?_ NB517_522.out _; (with_reducible repeat (first | refine blk_drewN ?_ _ | refine blk_drew ?_ | refine blk_alloc ?_ _)); exact BK517.out) hb); have n5_ := Aside0.mk (blk_below (g := gb522) (o := .cells #[.int .i64 x518000_2, .int .u64 x518001_2, .slice Ao32 x518002_2.length co32] 25 (0, 0)) (by (with_reducible repeat (first | refine blk_drewN ?_ _ | refine blk_drew ?_ | refine blk_alloc ?_ _)); refine blk_put (cs := #[.int .i64 x518000_2, .int .u64 x518001_2, .slice none 0 0]) ?_ 2 _ rfl; (with_reducible repeat (first | refine blk_drewN ?_ _ | refine blk_drew ?_ | refine blk_alloc ?_ _)); refine blk_put (cs := #[.int .i64 x518000_2, .int .u64 0, .slice none 0 0]) ?_ 1 _ rfl; (with_reducible repeat (first | refine blk_drewN ?_ _ | refine blk_drew ?_ | refine blk_alloc ?_ _)); refine blk_put (cs := #[.int .i64 0, .int .u64 0, .slice none 0 0]) ?_ 0 _ rfl; (with_reducible repeat (first | refine blk_drewN ?_ _ | refine blk_drew ?_ | refine blk_alloc ?_ _)); exact BK522.out) hb); have n6_ := Aside0.mk (below_step (by repeat (first | (with_reducible first | exact HB.out | apply below_alloc | apply pw_below_drewN | apply below_drew1 | refine below_set ?_ GE509.out | refine below_set ?_ GE517.out | refine below_set ?_ GE522.out) | exact HB.out)) hb); clear HO_10; clear HO_518002; clear BK509; clear BK517; clear BK522; clear HB; have HO_10 := n0_; have HO_518002 := n1_; have HO527 := n2_; have BK509 := n3_; have BK517 := n4_; have BK522 := n5_; have HB := n6_; clear n0_ n1_ n2_ n3_ n4_ n5_ n6_; (try clear hb); (try clear hb2); (try clear hk); (try clear hi); (try clear ho0); have hnb41 := NB522_509.out; have hnc41 := NB509_522.out; have hcz42_0 : w40.cell? ⟨gb522, 0, none⟩ = some (.int .i64 x518000_2) := (blk_cell BK522.out 0).trans rfl; have hcz42_1 : w40.cell? ⟨gb522, 1, none⟩ = some (.int .u64 x518001_2) := (blk_cell BK522.out 1).trans rfl; have hcz42_2 : w40.cell? ⟨gb522, 2, none⟩ = some (.slice Ao32 x518002_2.length co32) := (blk_cell BK522.out 2).trans rfl; have hfz42_0 := blk_frozen BK522.out 0; have hfz42_1 := blk_frozen BK522.out 1; have hfz42_2 := blk_frozen BK522.out 2; obtain ⟨Ao43, co43, eo43⟩ := Kd.R_slice HO527.out; subst eo43) | ((with_reducible refine gate_builtin (b := .append) (xs := #[.tmp 76, .tmp 78]) rfl ?_); at_builtin; refine Kd.R_append (Kd.int .u64) (w0 := w) w.heap.size rfl (.tmp 76) (.tmp 78) 58 22 (.int .u64 0) 8 rfl Try.underlying58 info22 rfl (by decide) (by omega) u10 x10_2 t528 [.int .u64 t528] (fun _ => True) (fun _ => False) rfl (by first | (go_simp; done) | (go_simp; rfl)) ?aP (fun _ hk => hk.elim) ?aF ?aO ?aB ?aS ?aL ?_; (case aP => exact rfl); (case aB => exact (by repeat (first | (with_reducible first | exact HB.out | apply below_alloc | apply pw_below_drewN | apply below_drew1 | refine below_set ?_ GE509.out | refine below_set ?_ GE517.out | refine below_set ?_ GE522.out) | exact HB.out))); (case aF => exact (fun _ _ => trivial)); (case aO => exact (by (with_reducible repeat (first | apply Kd.R_alloc | apply Kd.R_drewN | apply Kd.R_drew)); exact Kd.R_mono (Kd.R_far (p := ⟨gb522, 2, none⟩) (Kd.R_far (p := ⟨gb522, 1, none⟩) (Kd.R_far (p := ⟨gb522, 0, none⟩) (Kd.R_types HO_10.out BK522.out (by decide)) (fun _ hk => hk.2) (.int .i64 t523)) (fun _ hk => hk.2) (.int .u64 t524)) (fun _ hk => hk.2) (.slice Ao43 t525.length co43)) (fun _ hk => trivial))); (case aS => exact (below_size (by repeat (first | (with_reducible first | exact HB.out | apply below_alloc | apply pw_below_drewN | apply below_drew1 | refine below_set ?_ GE509.out | refine below_set ?_ GE517.out | refine below_set ?_ GE522.out) | exact HB.out)))); (case aL => have := LMc36.out; omega); intro v531 w44 ho hb hg hat; rw [← Ny530.out] at ho; have n0_ := Aside0.mk (Kd.R_over' (by (with_reducible repeat (first | apply Kd.R_alloc | apply Kd.R_drewN | apply Kd.R_drew)); exact (Kd.R_mono (Kd.R_far (p := ⟨gb522, 2, none⟩) (Kd.R_far (p := ⟨gb522, 1, none⟩) (Kd.R_far (p := ⟨gb522, 0, none⟩) (Kd.R_types HO_518002.out BK522.out (by decide)) (fun _ hk => hk.2) (.int .i64 t523)) (fun _ hk => hk.2) (.int .u64 t524)) (fun _ hk => hk.2) (.slice Ao43 t525.length co43)) (fun _ h_ => h_.1))) (Kd.R_typed (by (with_reducible repeat (first | apply Kd.R_alloc | apply Kd.R_drewN | apply Kd.R_drew)); exact (Kd.R_mono (Kd.R_far (p := ⟨gb522, 2, none⟩) (Kd.R_far (p := ⟨gb522, 1, none⟩) (Kd.R_far (p := ⟨gb522, 0, none⟩) (Kd.R_types HO_10.out BK522.out (by decide)) (fun _ hk => hk.2) (.int .i64 t523)) (fun _ hk => hk.2) (.int .u64 t524)) (fun _ hk => hk.2) (.slice Ao43 t525.length co43)) (fun _ h_ => h_.1)))) (by decide) hg); have n1_ := Aside0.mk (blk_grown (g := gb509) (o := .cells #[.int .i64 x510000_2, .int .u64 x510001_2, .slice none 0 0] 25 (0, 0)) (by (with_reducible repeat (first | refine blk_drewN ?_ _ | refine blk_drew ?_ | refine blk_alloc ?_ _)); refine blk_far ?_ NB509_522.out _; (with_reducible repeat (first | refine blk_drewN ?_ _ | refine blk_drew ?_ | refine blk_alloc ?_ _)); refine blk_far ?_ NB509_522.out _; (with_reducible repeat (first | refine blk_drewN ?_ _ | refine blk_drew ?_ | refine blk_alloc ?_ _)); refine blk_far ?_ NB509_522.out _; (with_reducible repeat (first | refine blk_drewN ?_ _ | refine blk_drew ?_ | refine blk_alloc ?_ _)); exact BK509.out) hg (Kd.R_ne HO_10.out BK509.out (by decide))); have n2_ := Aside0.mk (blk_grown (g := gb517) (o := .cells #[.int .i64 x518000_2, .int .u64 x518001_2, .slice Ao32 x518002_2.length co32] 25 (0, 0)) (by (with_reducible repeat (first | refine blk_drewN ?_ _ | refine blk_drew ?_ | refine blk_alloc ?_ _)); refine blk_far ?_ NB517_522.out _; (with_reducible repeat (first | refine blk_drewN ?_ _ | refine blk_drew ?_ | refine blk_alloc ?_ _)); refine blk_far ?_ NB517_522.out _; (with_reducible repeat (first | refine blk_drewN ?_ _ | refine blk_drew ?_ | refine blk_alloc ?_ _)); refine blk_far ?_ NB517_522.out _; (with_reducible repeat (first | refine blk_drewN ?_ _ | refine blk_drew ?_ | refine blk_alloc ?_ _)); exact BK517.out) hg (Kd.R_ne HO_10.out BK517.out (by decide))); have n3_ := Aside0.mk (blk_grown (g := gb522) (o := .cells #[.int .i64 t523, .int .u64 t524, .slice Ao43 t525.length co43] 25 (0, 0)) (by (with_reducible repeat (first | refine blk_drewN ?_ _ | refine blk_drew ?_ | refine blk_alloc ?_ _)); refine blk_put (cs := #[.int .i64 t523, .int .u64 t524, .slice Ao32 x518002_2.length co32]) ?_ 2 _ rfl; (with_reducible repeat (first | refine blk_drewN ?_ _ | refine blk_drew ?_ | refine blk_alloc ?_ _)); refine blk_put (cs := #[.int .i64 t523, .int .u64 x518001_2, .slice Ao32 x518002_2.length co32]) ?_ 1 _ rfl; (with_reducible repeat (first | refine blk_drewN ?_ _ | refine blk_drew ?_ | refine blk_alloc ?_ _)); refine blk_put (cs := #[.int .i64 x518000_2, .int .u64 x518001_2, .slice Ao32 x518002_2.length co32]) ?_ 0 _ rfl; (with_reducible repeat (first | refine blk_drewN ?_ _ | refine blk_drew ?_ | refine blk_alloc ?_ _)); exact BK522.out) hg (Kd.R_ne HO_10.out BK522.out (by decide))); have n4_ := Aside0.mk (Kd.R_over' (by (with_reducible repeat (first | apply Kd.R_alloc | apply Kd.R_drewN | apply Kd.R_drew)); exact (Kd.R_mono (Kd.R_far (p := ⟨gb522, 2, none⟩) (Kd.R_far (p := ⟨gb522, 1, none⟩) (Kd.R_far (p := ⟨gb522, 0, none⟩) (Kd.R_types HO527.out BK522.out (by decide)) (fun _ hk => hk.2) (.int .i64 t523)) (fun _ hk => hk.2) (.int .u64 t524)) (fun _ hk => hk.2) (.slice Ao43 t525.length co43)) (fun _ h_ => h_.1))) (Kd.R_typed (by (with_reducible repeat (first | apply Kd.R_alloc | apply Kd.R_drewN | apply Kd.R_drew)); exact (Kd.R_mono (Kd.R_far (p := ⟨gb522, 2, none⟩) (Kd.R_far (p := ⟨gb522, 1, none⟩) (Kd.R_far (p := ⟨gb522, 0, none⟩) (Kd.R_types HO_10.out BK522.out (by decide)) (fun _ hk => hk.2) (.int .i64 t523)) (fun _ hk => hk.2) (.int .u64 t524)) (fun _ hk => hk.2) (.slice Ao43 t525.length co43)) (fun _ h_ => h_.1)))) (by decide) hg); have n5_ := Aside0.mk (hb); have n6_ := Aside0.mk (ho); clear HO_518002; clear BK509; clear BK517; clear BK522; clear HO527; clear HB; clear HO_10; have HO_518002 := n0_; have BK509 := n1_; have BK517 := n2_; have BK522 := n3_; have HO527 := n4_; have HB := n5_; have HO532 := n6_; clear n0_ n1_ n2_ n3_ n4_ n5_ n6_; clear ho hb hg hat))
                        go_meet
                        case rel => exact ⟨_, (y530), (t529), (t523), (t524), (t525), (.slice Ao43 t525.length co43), (by first | rfl | (simp; done) | (simp [*]; done)), H', ⟨by have := HJ4.out; have := HK2.out; have := HJ18.out; first | omega | exact Nat.le_refl _⟩, ⟨by (with_reducible repeat (first | apply Kd.R_alloc | apply Kd.R_drewN | apply Kd.R_drew)); exact HO532.out⟩, ⟨by (with_reducible repeat (first | apply Kd.R_alloc | apply Kd.R_drewN | apply Kd.R_drew)); exact Kd.R_mono HO_518002.out (fun _ hk => by first | exact hk.2 | trivial)⟩, ⟨by (with_reducible repeat (first | apply Kd.R_alloc | apply Kd.R_drewN | apply Kd.R_drew)); exact Kd.R_mono HO527.out (fun _ hk => by first | exact hk.2 | trivial)⟩, ⟨by (with_reducible repeat (first | refine blk_drewN ?_ _ | refine blk_drew ?_ | refine blk_alloc ?_ _)); exact BK509.out⟩, ⟨by (with_reducible repeat (first | refine blk_drewN ?_ _ | refine blk_drew ?_ | refine blk_alloc ?_ _)); exact BK517.out⟩, ⟨by (with_reducible repeat (first | refine blk_drewN ?_ _ | refine blk_drew ?_ | refine blk_alloc ?_ _)); exact BK522.out⟩, ⟨by repeat (first | (with_reducible first | exact HB.out | apply below_alloc | apply pw_below_drewN | apply below_drew1 | refine below_set ?_ GE509.out | refine below_set ?_ GE517.out | refine below_set ?_ GE522.out) | exact HB.out)⟩⟩
                      · rw [if_neg c35] at H
                        have c35b0 : (t529 == 0) = false := beq_eq_false_iff_ne.mpr c35
                        have c35b1 : (t529 != 0) = true := bne_iff_ne.mpr c35
                        have H' := Aside0.mk H
                        clear H
                        have hnb45 := NB517_509.out
                        have hnc45 := NB509_517.out
                        have hnb46 := NB517_522.out
                        have hnc46 := NB522_517.out
                        have hcz47_0 : w28.cell? ⟨gb517, 0, none⟩ = some (.int .i64 x518000_2) := (blk_cell BK517.out 0).trans rfl
                        have hcz47_1 : w28.cell? ⟨gb517, 1, none⟩ = some (.int .u64 x518001_2) := (blk_cell BK517.out 1).trans rfl
                        have hcz47_2 : w28.cell? ⟨gb517, 2, none⟩ = some (.slice Ao32 x518002_2.length co32) := (blk_cell BK517.out 2).trans rfl
                        have hfz47_0 := blk_frozen BK517.out 0
                        have hfz47_1 := blk_frozen BK517.out 1
                        have hfz47_2 := blk_frozen BK517.out 2
                        go_wp2_with (first | ((with_reducible refine gate_callee (f := 12) rfl ?_); refine goesL_ (some 70) rfl rfl Try.func12 (by kernel_rfl) rfl #[.agg #[.int .i64 x518000_2, .int .u64 x518001_2, .slice Ao32 x518002_2.length co32], .int .i64 (Int.tmod (wrap64 (Int.tdiv t521 6)) 5)] rfl (by (try simp only [List.map_toArray, List.map_cons, List.map_nil]); first | done | rfl | (simp only [List.length_drop, List.length_take]; rfl)) ?_; (with_reducible refine (ring_Put.calls x518000_2 x518001_2 _ _ x518002_2 (Int.tmod (wrap64 (Int.tdiv t521 6)) 5) t523 t524 t525 t528 t529 _ ?side1 ?side2 A34.out).mono ?_); (case side1 => refine (Kd.R_reads' (e := 35) (base := w.heap.size) (ok := fun k_ => True) (n := x518002_2.length) (c := co32) ?_).2.2; exact (by (with_reducible repeat (first | apply Kd.R_alloc | apply Kd.R_drewN | apply Kd.R_drew)); exact (Kd.R_mono (Kd.R_far (p := ⟨gb522, 2, none⟩) (Kd.R_far (p := ⟨gb522, 1, none⟩) (Kd.R_far (p := ⟨gb522, 0, none⟩) (Kd.R_types HO_518002.out BK522.out (by decide)) (fun _ hk => hk.2) (.int .i64 x518000_2)) (fun _ hk => hk.2) (.int .u64 x518001_2)) (fun _ hk => hk.2) (.slice Ao32 x518002_2.length co32)) (fun _ h_ => h_.1)))); (case side2 => exact (Kd.R_reads' HO_518002.out).2.1); rintro e w48 ⟨v526, rfl, ho0, hb⟩; refine ⟨_, rfl, ?_⟩; have n0_ := Aside0.mk (Kd.R_below (by (with_reducible repeat (first | apply Kd.R_alloc | apply Kd.R_drewN | apply Kd.R_drew)); exact (Kd.R_mono (Kd.R_far (p := ⟨gb522, 2, none⟩) (Kd.R_far (p := ⟨gb522, 1, none⟩) (Kd.R_far (p := ⟨gb522, 0, none⟩) (Kd.R_types HO_10.out BK522.out (by decide)) (fun _ hk => hk.2) (.int .i64 x518000_2)) (fun _ hk => hk.2) (.int .u64 x518001_2)) (fun _ hk => hk.2) (.slice Ao32 x518002_2.length co32)) (fun _ h_ => h_.1))) hb); have n1_ := Aside0.mk (Kd.R_elder' (by (with_reducible repeat (first | apply Kd.R_alloc | apply Kd.R_drewN | apply Kd.R_drew)); exact (Kd.R_mono (Kd.R_far (p := ⟨gb522, 2, none⟩) (Kd.R_far (p := ⟨gb522, 1, none⟩) (Kd.R_far (p := ⟨gb522, 0, none⟩) (Kd.R_types HO_518002.out BK522.out (by decide)) (fun _ hk => hk.2) (.int .i64 x518000_2)) (fun _ hk => hk.2) (.int .u64 x518001_2)) (fun _ hk => hk.2) (.slice Ao32 x518002_2.length co32)) (fun _ h_ => h_.1))) (Kd.R_base ho0) hb); have n2_ := Aside0.mk (Kd.R_lower (Kd.R_new' ho0 (Kd.R_lt (by (with_reducible repeat (first | apply Kd.R_alloc | apply Kd.R_drewN | apply Kd.R_drew)); exact (Kd.R_mono (Kd.R_far (p := ⟨gb522, 2, none⟩) (Kd.R_far (p := ⟨gb522, 1, none⟩) (Kd.R_far (p := ⟨gb522, 0, none⟩) (Kd.R_types HO_518002.out BK522.out (by decide)) (fun _ hk => hk.2) (.int .i64 x518000_2)) (fun _ hk => hk.2) (.int .u64 x518001_2)) (fun _ hk => hk.2) (.slice Ao32 x518002_2.length co32)) (fun _ h_ => h_.1))))) (below_size (by repeat (first | (with_reducible first | exact HB.out | apply below_alloc | apply pw_below_drewN | apply below_drew1 | refine below_set ?_ GE509.out | refine below_set ?_ GE517.out | refine below_set ?_ GE522.out) | exact HB.out)))); have n3_ := Aside0.mk (blk_below (g := gb509) (o := .cells #[.int .i64 x510000_2, .int .u64 x510001_2, .slice none 0 0] 25 (0, 0)) (by (with_reducible repeat (first | refine blk_drewN ?_ _ | refine blk_drew ?_ | refine blk_alloc ?_ _)); refine blk_far ?_ NB509_522.out _; (with_reducible repeat (first | refine blk_drewN ?_ _ | refine blk_drew ?_ | refine blk_alloc ?_ _)); refine blk_far ?_ NB509_522.out _; (with_reducible repeat (first | refine blk_drewN ?_ _ | refine blk_drew ?_ | refine blk_alloc ?_ _)); refine blk_far ?_ NB509_522.out _; (with_reducible repeat (first | refine blk_drewN ?_ _ | refine blk_drew ?_ | refine blk_alloc ?_ _)); exact BK509.out) hb); have n4_ := Aside0.mk (blk_below (g := gb517) (o := .cells #[.int .i64 x518000_2, .int .u64 x518001_2, .slice Ao32 x518002_2.length co32] 25 (0, 0)) (by (with_reducible repeat (first | refine blk_drewN ?_ _ | refine blk_drew ?_ | refine blk_alloc ?_ _)); refine blk_far ?_ NB517_522.out _; (with_reducible repeat (first | refine blk_drewN ?_ _ | refine blk_drew ?_ | refine blk_alloc ?_ _)); refine blk_far ?_ NB517_522.out _; (with_reducible repeat (first | refine blk_drewN ?_ _ | refine blk_drew ?_ | refine blk_alloc ?_ _)); refine blk_far ?_ NB517_522.out _; (with_reducible repeat (first | refine blk_drewN ?_ _ | refine blk_drew ?_ | refine blk_alloc ?_ _)); exact BK517.out) hb); have n5_ := Aside0.mk (blk_below (g := gb522) (o := .cells #[.int .i64 x518000_2, .int .u64 x518001_2, .slice Ao32 x518002_2.length co32] 25 (0, 0)) (by (with_reducible repeat (first | refine blk_drewN ?_ _ | refine blk_drew ?_ | refine blk_alloc ?_ _)); refine blk_put (cs := #[.int .i64 x518000_2, .int .u64 x518001_2, .slice none 0 0]) ?_ 2 _ rfl; (with_reducible repeat (first | refine blk_drewN ?_ _ | refine blk_drew ?_ | refine blk_alloc ?_ _)); refine blk_put (cs := #[.int .i64 x518000_2, .int .u64 0, .slice none 0 0]) ?_ 1 _ rfl; (with_reducible repeat (first | refine blk_drewN ?_ _ | refine blk_drew ?_ | refine blk_alloc ?_ _)); refine blk_put (cs := #[.int .i64 0, .int .u64 0, .slice none 0 0]) ?_ 0 _ rfl; (with_reducible repeat (first | refine blk_drewN ?_ _ | refine blk_drew ?_ | refine blk_alloc ?_ _)); exact BK522.out) hb); have n6_ := Aside0.mk (below_step (by repeat (first | (with_reducible first | exact HB.out | apply below_alloc | apply pw_below_drewN | apply below_drew1 | refine below_set ?_ GE509.out | refine below_set ?_ GE517.out | refine below_set ?_ GE522.out) | exact HB.out)) hb); clear HO_10; clear HO_518002; clear BK509; clear BK517; clear BK522; clear HB; have HO_10 := n0_; have HO_518002 := n1_; have HO527 := n2_; have BK509 := n3_; have BK517 := n4_; have BK522 := n5_; have HB := n6_; clear n0_ n1_ n2_ n3_ n4_ n5_ n6_; (try clear hb); (try clear hb2); (try clear hk); (try clear hi); (try clear ho0); have hnb49 := NB522_509.out; have hnc49 := NB509_522.out; have hcz50_0 : w48.cell? ⟨gb522, 0, none⟩ = some (.int .i64 x518000_2) := (blk_cell BK522.out 0).trans rfl; have hcz50_1 : w48.cell? ⟨gb522, 1, none⟩ = some (.int .u64 x518001_2) := (blk_cell BK522.out 1).trans rfl; have hcz50_2 : w48.cell? ⟨gb522, 2, none⟩ = some (.slice Ao32 x518002_2.length co32) := (blk_cell BK522.out 2).trans rfl; have hfz50_0 := blk_frozen BK522.out 0; have hfz50_1 := blk_frozen BK522.out 1; have hfz50_2 := blk_frozen BK522.out 2; obtain ⟨Ao51, co51, eo51⟩ := Kd.R_slice HO527.out; subst eo51))
                        go_meet
                        case rel => exact ⟨_, (x10_2), (t529), (t523), (t524), (t525), (.slice Ao51 t525.length co51), (by first | rfl | (simp; done) | (simp [*]; done)), H', ⟨by have := HJ4.out; have := HK2.out; have := HJ18.out; first | omega | exact Nat.le_refl _⟩, ⟨by (with_reducible repeat (first | apply Kd.R_alloc | apply Kd.R_drewN | apply Kd.R_drew)); exact Kd.R_mono (Kd.R_far (p := ⟨gb522, 2, none⟩) (Kd.R_far (p := ⟨gb522, 1, none⟩) (Kd.R_far (p := ⟨gb522, 0, none⟩) (Kd.R_types HO_10.out BK522.out (by decide)) (fun _ hk => hk.2) (.int .i64 t523)) (fun _ hk => hk.2) (.int .u64 t524)) (fun _ hk => hk.2) (.slice Ao51 t525.length co51)) (fun _ hk => trivial)⟩, ⟨by (with_reducible repeat (first | apply Kd.R_alloc | apply Kd.R_drewN | apply Kd.R_drew)); exact Kd.R_mono (Kd.R_far (p := ⟨gb522, 2, none⟩) (Kd.R_far (p := ⟨gb522, 1, none⟩) (Kd.R_far (p := ⟨gb522, 0, none⟩) (Kd.R_types HO_518002.out BK522.out (by decide)) (fun _ hk => hk.2) (.int .i64 t523)) (fun _ hk => hk.2) (.int .u64 t524)) (fun _ hk => hk.2) (.slice Ao51 t525.length co51)) (fun _ hk => by first | exact hk.1.2 | trivial)⟩, ⟨by (with_reducible repeat (first | apply Kd.R_alloc | apply Kd.R_drewN | apply Kd.R_drew)); exact Kd.R_mono (Kd.R_far (p := ⟨gb522, 2, none⟩) (Kd.R_far (p := ⟨gb522, 1, none⟩) (Kd.R_far (p := ⟨gb522, 0, none⟩) (Kd.R_types HO527.out BK522.out (by decide)) (fun _ hk => hk.2) (.int .i64 t523)) (fun _ hk => hk.2) (.int .u64 t524)) (fun _ hk => hk.2) (.slice Ao51 t525.length co51)) (fun _ hk => by first | exact hk.1.2 | trivial)⟩, ⟨by (with_reducible repeat (first | refine blk_drewN ?_ _ | refine blk_drew ?_ | refine blk_alloc ?_ _)); refine blk_far ?_ NB509_522.out _; (with_reducible repeat (first | refine blk_drewN ?_ _ | refine blk_drew ?_ | refine blk_alloc ?_ _)); refine blk_far ?_ NB509_522.out _; (with_reducible repeat (first | refine blk_drewN ?_ _ | refine blk_drew ?_ | refine blk_alloc ?_ _)); refine blk_far ?_ NB509_522.out _; (with_reducible repeat (first | refine blk_drewN ?_ _ | refine blk_drew ?_ | refine blk_alloc ?_ _)); exact BK509.out⟩, ⟨by (with_reducible repeat (first | refine blk_drewN ?_ _ | refine blk_drew ?_ | refine blk_alloc ?_ _)); refine blk_far ?_ NB517_522.out _; (with_reducible repeat (first | refine blk_drewN ?_ _ | refine blk_drew ?_ | refine blk_alloc ?_ _)); refine blk_far ?_ NB517_522.out _; (with_reducible repeat (first | refine blk_drewN ?_ _ | refine blk_drew ?_ | refine blk_alloc ?_ _)); refine blk_far ?_ NB517_522.out _; (with_reducible repeat (first | refine blk_drewN ?_ _ | refine blk_drew ?_ | refine blk_alloc ?_ _)); exact BK517.out⟩, ⟨by (with_reducible repeat (first | refine blk_drewN ?_ _ | refine blk_drew ?_ | refine blk_alloc ?_ _)); refine blk_put (cs := #[.int .i64 t523, .int .u64 t524, .slice Ao32 x518002_2.length co32]) ?_ 2 _ rfl; (with_reducible repeat (first | refine blk_drewN ?_ _ | refine blk_drew ?_ | refine blk_alloc ?_ _)); refine blk_put (cs := #[.int .i64 t523, .int .u64 x518001_2, .slice Ao32 x518002_2.length co32]) ?_ 1 _ rfl; (with_reducible repeat (first | refine blk_drewN ?_ _ | refine blk_drew ?_ | refine blk_alloc ?_ _)); refine blk_put (cs := #[.int .i64 x518000_2, .int .u64 x518001_2, .slice Ao32 x518002_2.length co32]) ?_ 0 _ rfl; (with_reducible repeat (first | refine blk_drewN ?_ _ | refine blk_drew ?_ | refine blk_alloc ?_ _)); exact BK522.out⟩, ⟨by repeat (first | (with_reducible first | exact HB.out | apply below_alloc | apply pw_below_drewN | apply below_drew1 | refine below_set ?_ GE509.out | refine below_set ?_ GE517.out | refine below_set ?_ GE522.out) | exact HB.out)⟩⟩
                    · rw [if_neg c33] at H
                      have c33b0 : decide ((Int.tmod t521 6) < 4) = false := decide_eq_false c33
                      clear c33
                      (first | rw [c33b0] | (simp only [i64_w, i32_w]; rw [c33b0]) | skip)
                      by_cases c52 : (Int.tmod t521 6) = 4
                      · rw [if_pos c52] at H
                        have c52b0 : ((Int.tmod t521 6) == 4) = true := beq_iff_eq.mpr c52
                        have c52b1 : ((Int.tmod t521 6) != 4) = false := bne_eq_false_iff_eq.mpr c52
                        clear c52
                        replace H := Option.bind_eq_some_iff.mp H
                        obtain ⟨⟨t533, t534, t535, t538, t539, t540⟩, A530, H⟩ := H
                        replace H : (L05_made.j3 kj18 l1 (wrap64 (1 + t510)) x10_2 x11_2 t540 x518000_2 x518001_2 x518002_2 t533 t534 t535) = some (r1, r2, r3, r4, r5) := H
                        have A53 := Aside0.mk A530
                        clear A530
                        have H' := Aside0.mk H
                        clear H
                        have hnb54 := NB517_509.out
                        have hnc54 := NB509_517.out
                        have hnb55 := NB517_522.out
                        have hnc55 := NB522_517.out
                        have hcz56_0 : w28.cell? ⟨gb517, 0, none⟩ = some (.int .i64 x518000_2) := (blk_cell BK517.out 0).trans rfl
                        have hcz56_1 : w28.cell? ⟨gb517, 1, none⟩ = some (.int .u64 x518001_2) := (blk_cell BK517.out 1).trans rfl
                        have hcz56_2 : w28.cell? ⟨gb517, 2, none⟩ = some (.slice Ao32 x518002_2.length co32) := (blk_cell BK517.out 2).trans rfl
                        have hfz56_0 := blk_frozen BK517.out 0
                        have hfz56_1 := blk_frozen BK517.out 1
                        have hfz56_2 := blk_frozen BK517.out 2
                        go_wp2_with (first | ((with_reducible refine gate_callee (f := 15) rfl ?_); refine goesL_ (some 91) rfl rfl Try.func15 (by kernel_rfl) rfl #[.agg #[.int .i64 x518000_2, .int .u64 x518001_2, .slice Ao32 x518002_2.length co32], .int .u64 (IntKind.u64.wrap (wrap64 (1 + (Int.tmod (wrap64 (Int.tdiv t521 6)) 40))))] rfl (by (try simp only [List.map_toArray, List.map_cons, List.map_nil]); first | done | rfl | (simp only [List.length_drop, List.length_take]; rfl)) ?_; (with_reducible refine (ring_Drop.calls x518000_2 x518001_2 _ _ x518002_2 (IntKind.u64.wrap (wrap64 (1 + (Int.tmod (wrap64 (Int.tdiv t521 6)) 40)))) t533 t534 t535 t538 t539 t540 _ ?side1 ?side2 A53.out).mono ?_); (case side1 => refine (Kd.R_reads' (e := 35) (base := w.heap.size) (ok := fun k_ => True) (n := x518002_2.length) (c := co32) ?_).2.2; exact (by (with_reducible repeat (first | apply Kd.R_alloc | apply Kd.R_drewN | apply Kd.R_drew)); exact (Kd.R_mono (Kd.R_far (p := ⟨gb522, 2, none⟩) (Kd.R_far (p := ⟨gb522, 1, none⟩) (Kd.R_far (p := ⟨gb522, 0, none⟩) (Kd.R_types HO_518002.out BK522.out (by decide)) (fun _ hk => hk.2) (.int .i64 x518000_2)) (fun _ hk => hk.2) (.int .u64 x518001_2)) (fun _ hk => hk.2) (.slice Ao32 x518002_2.length co32)) (fun _ h_ => h_.1)))); (case side2 => exact (Kd.R_reads' HO_518002.out).2.1); rintro e w57 ⟨v536, rfl, ho0, hb⟩; refine ⟨_, rfl, ?_⟩; have n0_ := Aside0.mk (Kd.R_below (by (with_reducible repeat (first | apply Kd.R_alloc | apply Kd.R_drewN | apply Kd.R_drew)); exact (Kd.R_mono (Kd.R_far (p := ⟨gb522, 2, none⟩) (Kd.R_far (p := ⟨gb522, 1, none⟩) (Kd.R_far (p := ⟨gb522, 0, none⟩) (Kd.R_types HO_10.out BK522.out (by decide)) (fun _ hk => hk.2) (.int .i64 x518000_2)) (fun _ hk => hk.2) (.int .u64 x518001_2)) (fun _ hk => hk.2) (.slice Ao32 x518002_2.length co32)) (fun _ h_ => h_.1))) hb); have n1_ := Aside0.mk (Kd.R_elder' (by (with_reducible repeat (first | apply Kd.R_alloc | apply Kd.R_drewN | apply Kd.R_drew)); exact (Kd.R_mono (Kd.R_far (p := ⟨gb522, 2, none⟩) (Kd.R_far (p := ⟨gb522, 1, none⟩) (Kd.R_far (p := ⟨gb522, 0, none⟩) (Kd.R_types HO_518002.out BK522.out (by decide)) (fun _ hk => hk.2) (.int .i64 x518000_2)) (fun _ hk => hk.2) (.int .u64 x518001_2)) (fun _ hk => hk.2) (.slice Ao32 x518002_2.length co32)) (fun _ h_ => h_.1))) (Kd.R_base ho0) hb); have n2_ := Aside0.mk (Kd.R_lower (Kd.R_new' ho0 (Kd.R_lt (by (with_reducible repeat (first | apply Kd.R_alloc | apply Kd.R_drewN | apply Kd.R_drew)); exact (Kd.R_mono (Kd.R_far (p := ⟨gb522, 2, none⟩) (Kd.R_far (p := ⟨gb522, 1, none⟩) (Kd.R_far (p := ⟨gb522, 0, none⟩) (Kd.R_types HO_518002.out BK522.out (by decide)) (fun _ hk => hk.2) (.int .i64 x518000_2)) (fun _ hk => hk.2) (.int .u64 x518001_2)) (fun _ hk => hk.2) (.slice Ao32 x518002_2.length co32)) (fun _ h_ => h_.1))))) (below_size (by repeat (first | (with_reducible first | exact HB.out | apply below_alloc | apply pw_below_drewN | apply below_drew1 | refine below_set ?_ GE509.out | refine below_set ?_ GE517.out | refine below_set ?_ GE522.out) | exact HB.out)))); have n3_ := Aside0.mk (blk_below (g := gb509) (o := .cells #[.int .i64 x510000_2, .int .u64 x510001_2, .slice none 0 0] 25 (0, 0)) (by (with_reducible repeat (first | refine blk_drewN ?_ _ | refine blk_drew ?_ | refine blk_alloc ?_ _)); refine blk_far ?_ NB509_522.out _; (with_reducible repeat (first | refine blk_drewN ?_ _ | refine blk_drew ?_ | refine blk_alloc ?_ _)); refine blk_far ?_ NB509_522.out _; (with_reducible repeat (first | refine blk_drewN ?_ _ | refine blk_drew ?_ | refine blk_alloc ?_ _)); refine blk_far ?_ NB509_522.out _; (with_reducible repeat (first | refine blk_drewN ?_ _ | refine blk_drew ?_ | refine blk_alloc ?_ _)); exact BK509.out) hb); have n4_ := Aside0.mk (blk_below (g := gb517) (o := .cells #[.int .i64 x518000_2, .int .u64 x518001_2, .slice Ao32 x518002_2.length co32] 25 (0, 0)) (by (with_reducible repeat (first | refine blk_drewN ?_ _ | refine blk_drew ?_ | refine blk_alloc ?_ _)); refine blk_far ?_ NB517_522.out _; (with_reducible repeat (first | refine blk_drewN ?_ _ | refine blk_drew ?_ | refine blk_alloc ?_ _)); refine blk_far ?_ NB517_522.out _; (with_reducible repeat (first | refine blk_drewN ?_ _ | refine blk_drew ?_ | refine blk_alloc ?_ _)); refine blk_far ?_ NB517_522.out _; (with_reducible repeat (first | refine blk_drewN ?_ _ | refine blk_drew ?_ | refine blk_alloc ?_ _)); exact BK517.out) hb); have n5_ := Aside0.mk (blk_below (g := gb522) (o := .cells #[.int .i64 x518000_2, .int .u64 x518001_2, .slice Ao32 x518002_2.length co32] 25 (0, 0)) (by (with_reducible repeat (first | refine blk_drewN ?_ _ | refine blk_drew ?_ | refine blk_alloc ?_ _)); refine blk_put (cs := #[.int .i64 x518000_2, .int .u64 x518001_2, .slice none 0 0]) ?_ 2 _ rfl; (with_reducible repeat (first | refine blk_drewN ?_ _ | refine blk_drew ?_ | refine blk_alloc ?_ _)); refine blk_put (cs := #[.int .i64 x518000_2, .int .u64 0, .slice none 0 0]) ?_ 1 _ rfl; (with_reducible repeat (first | refine blk_drewN ?_ _ | refine blk_drew ?_ | refine blk_alloc ?_ _)); refine blk_put (cs := #[.int .i64 0, .int .u64 0, .slice none 0 0]) ?_ 0 _ rfl; (with_reducible repeat (first | refine blk_drewN ?_ _ | refine blk_drew ?_ | refine blk_alloc ?_ _)); exact BK522.out) hb); have n6_ := Aside0.mk (below_step (by repeat (first | (with_reducible first | exact HB.out | apply below_alloc | apply pw_below_drewN | apply below_drew1 | refine below_set ?_ GE509.out | refine below_set ?_ GE517.out | refine below_set ?_ GE522.out) | exact HB.out)) hb); clear HO_10; clear HO_518002; clear BK509; clear BK517; clear BK522; clear HB; have HO_10 := n0_; have HO_518002 := n1_; have HO537 := n2_; have BK509 := n3_; have BK517 := n4_; have BK522 := n5_; have HB := n6_; clear n0_ n1_ n2_ n3_ n4_ n5_ n6_; (try clear hb); (try clear hb2); (try clear hk); (try clear hi); (try clear ho0); have hnb58 := NB522_509.out; have hnc58 := NB509_522.out; have hcz59_0 : w57.cell? ⟨gb522, 0, none⟩ = some (.int .i64 x518000_2) := (blk_cell BK522.out 0).trans rfl; have hcz59_1 : w57.cell? ⟨gb522, 1, none⟩ = some (.int .u64 x518001_2) := (blk_cell BK522.out 1).trans rfl; have hcz59_2 : w57.cell? ⟨gb522, 2, none⟩ = some (.slice Ao32 x518002_2.length co32) := (blk_cell BK522.out 2).trans rfl; have hfz59_0 := blk_frozen BK522.out 0; have hfz59_1 := blk_frozen BK522.out 1; have hfz59_2 := blk_frozen BK522.out 2; obtain ⟨Ao60, co60, eo60⟩ := Kd.R_slice HO537.out; subst eo60))
                        go_meet
                        case rel => exact ⟨_, (x10_2), (t540), (t533), (t534), (t535), (.slice Ao60 t535.length co60), (by first | rfl | (simp; done) | (simp [*]; done)), H', ⟨by have := HJ4.out; have := HK2.out; have := HJ18.out; first | omega | exact Nat.le_refl _⟩, ⟨by (with_reducible repeat (first | apply Kd.R_alloc | apply Kd.R_drewN | apply Kd.R_drew)); exact Kd.R_mono (Kd.R_far (p := ⟨gb522, 2, none⟩) (Kd.R_far (p := ⟨gb522, 1, none⟩) (Kd.R_far (p := ⟨gb522, 0, none⟩) (Kd.R_types HO_10.out BK522.out (by decide)) (fun _ hk => hk.2) (.int .i64 t533)) (fun _ hk => hk.2) (.int .u64 t534)) (fun _ hk => hk.2) (.slice Ao60 t535.length co60)) (fun _ hk => trivial)⟩, ⟨by (with_reducible repeat (first | apply Kd.R_alloc | apply Kd.R_drewN | apply Kd.R_drew)); exact Kd.R_mono (Kd.R_far (p := ⟨gb522, 2, none⟩) (Kd.R_far (p := ⟨gb522, 1, none⟩) (Kd.R_far (p := ⟨gb522, 0, none⟩) (Kd.R_types HO_518002.out BK522.out (by decide)) (fun _ hk => hk.2) (.int .i64 t533)) (fun _ hk => hk.2) (.int .u64 t534)) (fun _ hk => hk.2) (.slice Ao60 t535.length co60)) (fun _ hk => by first | exact hk.1.2 | trivial)⟩, ⟨by (with_reducible repeat (first | apply Kd.R_alloc | apply Kd.R_drewN | apply Kd.R_drew)); exact Kd.R_mono (Kd.R_far (p := ⟨gb522, 2, none⟩) (Kd.R_far (p := ⟨gb522, 1, none⟩) (Kd.R_far (p := ⟨gb522, 0, none⟩) (Kd.R_types HO537.out BK522.out (by decide)) (fun _ hk => hk.2) (.int .i64 t533)) (fun _ hk => hk.2) (.int .u64 t534)) (fun _ hk => hk.2) (.slice Ao60 t535.length co60)) (fun _ hk => by first | exact hk.1.2 | trivial)⟩, ⟨by (with_reducible repeat (first | refine blk_drewN ?_ _ | refine blk_drew ?_ | refine blk_alloc ?_ _)); refine blk_far ?_ NB509_522.out _; (with_reducible repeat (first | refine blk_drewN ?_ _ | refine blk_drew ?_ | refine blk_alloc ?_ _)); refine blk_far ?_ NB509_522.out _; (with_reducible repeat (first | refine blk_drewN ?_ _ | refine blk_drew ?_ | refine blk_alloc ?_ _)); refine blk_far ?_ NB509_522.out _; (with_reducible repeat (first | refine blk_drewN ?_ _ | refine blk_drew ?_ | refine blk_alloc ?_ _)); exact BK509.out⟩, ⟨by (with_reducible repeat (first | refine blk_drewN ?_ _ | refine blk_drew ?_ | refine blk_alloc ?_ _)); refine blk_far ?_ NB517_522.out _; (with_reducible repeat (first | refine blk_drewN ?_ _ | refine blk_drew ?_ | refine blk_alloc ?_ _)); refine blk_far ?_ NB517_522.out _; (with_reducible repeat (first | refine blk_drewN ?_ _ | refine blk_drew ?_ | refine blk_alloc ?_ _)); refine blk_far ?_ NB517_522.out _; (with_reducible repeat (first | refine blk_drewN ?_ _ | refine blk_drew ?_ | refine blk_alloc ?_ _)); exact BK517.out⟩, ⟨by (with_reducible repeat (first | refine blk_drewN ?_ _ | refine blk_drew ?_ | refine blk_alloc ?_ _)); refine blk_put (cs := #[.int .i64 t533, .int .u64 t534, .slice Ao32 x518002_2.length co32]) ?_ 2 _ rfl; (with_reducible repeat (first | refine blk_drewN ?_ _ | refine blk_drew ?_ | refine blk_alloc ?_ _)); refine blk_put (cs := #[.int .i64 t533, .int .u64 x518001_2, .slice Ao32 x518002_2.length co32]) ?_ 1 _ rfl; (with_reducible repeat (first | refine blk_drewN ?_ _ | refine blk_drew ?_ | refine blk_alloc ?_ _)); refine blk_put (cs := #[.int .i64 x518000_2, .int .u64 x518001_2, .slice Ao32 x518002_2.length co32]) ?_ 0 _ rfl; (with_reducible repeat (first | refine blk_drewN ?_ _ | refine blk_drew ?_ | refine blk_alloc ?_ _)); exact BK522.out⟩, ⟨by repeat (first | (with_reducible first | exact HB.out | apply below_alloc | apply pw_below_drewN | apply below_drew1 | refine below_set ?_ GE509.out | refine below_set ?_ GE517.out | refine below_set ?_ GE522.out) | exact HB.out)⟩⟩
                      · rw [if_neg c52] at H
                        have c52b0 : ((Int.tmod t521 6) == 4) = false := beq_eq_false_iff_ne.mpr c52
                        have c52b1 : ((Int.tmod t521 6) != 4) = true := bne_iff_ne.mpr c52
                        obtain ⟨y541, hy541⟩ : ∃ y_ : List Int, y_ = (([Int.tmod (wrap64 (Int.tdiv t521 6)) 9] : List Int)) := ⟨_, rfl⟩
                        replace H : ((ring_Wipe.f x518000_2 x518001_2 x518002_2 y541).bind fun bt544 => (L05_made.j3 kj18 l1 (wrap64 (1 + t510)) x10_2 x11_2 bt544.2.2.2.2 x518000_2 x518001_2 x518002_2 bt544.1 bt544.2.1 bt544.2.2.1)) = some (r1, r2, r3, r4, r5) := by first | (rw [hy541]; with_reducible exact H) | (have H2_ := (Option.bind_some _ _).symm.trans H; rw [hy541]; with_reducible exact H2_) | (have H2_ := (Option.bind_some _ _).symm.trans H; with_reducible exact H2_) | with_reducible exact H | (rw [hy541]; exact H) | exact H
                        have Ny541 := Aside0.mk hy541
                        clear hy541
                        replace H := Option.bind_eq_some_iff.mp H
                        obtain ⟨⟨t544, t545, t546, t549, t552⟩, A610, H⟩ := H
                        replace H : (L05_made.j3 kj18 l1 (wrap64 (1 + t510)) x10_2 x11_2 t552 x518000_2 x518001_2 x518002_2 t544 t545 t546) = some (r1, r2, r3, r4, r5) := H
                        have A61 := Aside0.mk A610
                        clear A610
                        have H' := Aside0.mk H
                        clear H
                        have hnb62 := NB517_509.out
                        have hnc62 := NB509_517.out
                        have hnb63 := NB517_522.out
                        have hnc63 := NB522_517.out
                        have hcz64_0 : w28.cell? ⟨gb517, 0, none⟩ = some (.int .i64 x518000_2) := (blk_cell BK517.out 0).trans rfl
                        have hcz64_1 : w28.cell? ⟨gb517, 1, none⟩ = some (.int .u64 x518001_2) := (blk_cell BK517.out 1).trans rfl
                        have hcz64_2 : w28.cell? ⟨gb517, 2, none⟩ = some (.slice Ao32 x518002_2.length co32) := (blk_cell BK517.out 2).trans rfl
                        have hfz64_0 := blk_frozen BK517.out 0
                        have hfz64_1 := blk_frozen BK517.out 1
                        have hfz64_2 := blk_frozen BK517.out 2
                        go_wp2_with (first | ((with_reducible refine gate_dst (N := 56) rfl ?_); refine Kd.R_lit (Kd.int .i64) _ 3 ?hg (N := 56) ?hd (xs := ([Int.tmod (wrap64 (Int.tdiv t521 6)) 9] : List Int)) (inner := [.int .i64 (Int.tmod (wrap64 (Int.tdiv t521 6)) 9)]) (ok := fun _ => True) (okp := fun _ => True) ?hr ?hp (fun _ hk => hk) trivial (Below.refl _ _) (Nat.le_refl _) (by simp) ?_; (case hd => rfl); (case hg => rfl); (case hr => first | (go_simp; done) | (go_simp; rfl)); (case hp => exact (Reps.one (show Kd.M (Kd.int .i64) _ _ _ (Int.tmod (wrap64 (Int.tdiv t521 6)) 9) [.int .i64 (Int.tmod (wrap64 (Int.tdiv t521 6)) 9)] from rfl) (Reps.none _ _))); intro v542 w65 ho66 hb hg_ hnew_; clear hg_ hnew_; (first | rw [← Ny541.out] at ho66 | (simp only [Int.reduceToNat] at ho66; rw [← Ny541.out] at ho66)); have n0_ := Aside0.mk (Kd.R_below (by (with_reducible repeat (first | apply Kd.R_alloc | apply Kd.R_drewN | apply Kd.R_drew)); exact (Kd.R_mono (Kd.R_far (p := ⟨gb522, 2, none⟩) (Kd.R_far (p := ⟨gb522, 1, none⟩) (Kd.R_far (p := ⟨gb522, 0, none⟩) (Kd.R_types HO_10.out BK522.out (by decide)) (fun _ hk => hk.2) (.int .i64 x518000_2)) (fun _ hk => hk.2) (.int .u64 x518001_2)) (fun _ hk => hk.2) (.slice Ao32 x518002_2.length co32)) (fun _ h_ => h_.1))) hb); have n1_ := Aside0.mk (Kd.R_below (by (with_reducible repeat (first | apply Kd.R_alloc | apply Kd.R_drewN | apply Kd.R_drew)); exact (Kd.R_mono (Kd.R_far (p := ⟨gb522, 2, none⟩) (Kd.R_far (p := ⟨gb522, 1, none⟩) (Kd.R_far (p := ⟨gb522, 0, none⟩) (Kd.R_types HO_518002.out BK522.out (by decide)) (fun _ hk => hk.2) (.int .i64 x518000_2)) (fun _ hk => hk.2) (.int .u64 x518001_2)) (fun _ hk => hk.2) (.slice Ao32 x518002_2.length co32)) (fun _ h_ => h_.1))) hb); have n2_ := Aside0.mk (Kd.R_lower ho66 (below_size (by repeat (first | (with_reducible first | exact HB.out | apply below_alloc | apply pw_below_drewN | apply below_drew1 | refine below_set ?_ GE509.out | refine below_set ?_ GE517.out | refine below_set ?_ GE522.out) | exact HB.out)))); have n3_ := Aside0.mk (blk_below (g := gb509) (o := .cells #[.int .i64 x510000_2, .int .u64 x510001_2, .slice none 0 0] 25 (0, 0)) (by (with_reducible repeat (first | refine blk_drewN ?_ _ | refine blk_drew ?_ | refine blk_alloc ?_ _)); refine blk_far ?_ NB509_522.out _; (with_reducible repeat (first | refine blk_drewN ?_ _ | refine blk_drew ?_ | refine blk_alloc ?_ _)); refine blk_far ?_ NB509_522.out _; (with_reducible repeat (first | refine blk_drewN ?_ _ | refine blk_drew ?_ | refine blk_alloc ?_ _)); refine blk_far ?_ NB509_522.out _; (with_reducible repeat (first | refine blk_drewN ?_ _ | refine blk_drew ?_ | refine blk_alloc ?_ _)); exact BK509.out) hb); have n4_ := Aside0.mk (blk_below (g := gb517) (o := .cells #[.int .i64 x518000_2, .int .u64 x518001_2, .slice Ao32 x518002_2.length co32] 25 (0, 0)) (by (with_reducible repeat (first | refine blk_drewN ?_ _ | refine blk_drew ?_ | refine blk_alloc ?_ _)); refine blk_far ?_ NB517_522.out _; (with_reducible repeat (first | refine blk_drewN ?_ _ | refine blk_drew ?_ | refine blk_alloc ?_ _)); refine blk_far ?_ NB517_522.out _; (with_reducible repeat (first | refine blk_drewN ?_ _ | refine blk_drew ?_ | refine blk_alloc ?_ _)); refine blk_far ?_ NB517_522.out _; (with_reducible repeat (first | refine blk_drewN ?_ _ | refine blk_drew ?_ | refine blk_alloc ?_ _)); exact BK517.out) hb); have n5_ := Aside0.mk (blk_below (g := gb522) (o := .cells #[.int .i64 x518000_2, .int .u64 x518001_2, .slice Ao32 x518002_2.length co32] 25 (0, 0)) (by (with_reducible repeat (first | refine blk_drewN ?_ _ | refine blk_drew ?_ | refine blk_alloc ?_ _)); refine blk_put (cs := #[.int .i64 x518000_2, .int .u64 x518001_2, .slice none 0 0]) ?_ 2 _ rfl; (with_reducible repeat (first | refine blk_drewN ?_ _ | refine blk_drew ?_ | refine blk_alloc ?_ _)); refine blk_put (cs := #[.int .i64 x518000_2, .int .u64 0, .slice none 0 0]) ?_ 1 _ rfl; (with_reducible repeat (first | refine blk_drewN ?_ _ | refine blk_drew ?_ | refine blk_alloc ?_ _)); refine blk_put (cs := #[.int .i64 0, .int .u64 0, .slice none 0 0]) ?_ 0 _ rfl; (with_reducible repeat (first | refine blk_drewN ?_ _ | refine blk_drew ?_ | refine blk_alloc ?_ _)); exact BK522.out) hb); have n6_ := Aside0.mk (below_step (by repeat (first | (with_reducible first | exact HB.out | apply below_alloc | apply pw_below_drewN | apply below_drew1 | refine below_set ?_ GE509.out | refine below_set ?_ GE517.out | refine below_set ?_ GE522.out) | exact HB.out)) hb); clear HO_10; clear HO_518002; clear BK509; clear BK517; clear BK522; clear HB; have HO_10 := n0_; have HO_518002 := n1_; have HO543 := n2_; have BK509 := n3_; have BK517 := n4_; have BK522 := n5_; have HB := n6_; clear n0_ n1_ n2_ n3_ n4_ n5_ n6_; clear hb ho66; obtain ⟨Ao67, co67, eo67⟩ := Kd.R_slice HO543.out; subst eo67) | ((with_reducible refine gate_callee (f := 17) rfl ?_); refine goesL_ (some 57) rfl rfl Try.func17 (by kernel_rfl) rfl #[.agg #[.int .i64 x518000_2, .int .u64 x518001_2, .slice Ao32 x518002_2.length co32], .slice Ao67 y541.length co67] rfl (by (try simp only [List.map_toArray, List.map_cons, List.map_nil]); first | done | rfl | (simp only [List.length_drop, List.length_take]; rfl)) ?_; (with_reducible refine (ring_Wipe.calls x518000_2 x518001_2 _ _ x518002_2 _ _ y541 t544 t545 t546 t549 t552 _ ?side1 ?side2 ?side3 ?side4 A61.out).mono ?_); (case side1 => repeat (first | exact (Kd.R_reads' HO_518002.out).2.2 | (with_reducible refine Kd.C_alloc ?_ _) | (with_reducible refine Kd.C_drewN ?_ _) | (with_reducible refine Kd.C_drew ?_))); (case side2 => exact (Kd.R_reads' HO_518002.out).2.1); (case side3 => repeat (first | exact (Kd.R_reads' HO543.out).2.2 | (with_reducible refine Kd.C_alloc ?_ _) | (with_reducible refine Kd.C_drewN ?_ _) | (with_reducible refine Kd.C_drew ?_))); (case side4 => exact (Kd.R_reads' HO543.out).2.1); rintro e w68 ⟨v547, v550, rfl, ho0, ho1, hb⟩; refine ⟨_, rfl, ?_⟩; have n0_ := Aside0.mk (Kd.R_below (by (with_reducible repeat (first | apply Kd.R_alloc | apply Kd.R_drewN | apply Kd.R_drew)); exact HO_10.out) hb); have n1_ := Aside0.mk (Kd.R_mono (Kd.R_told (Kd.R_told (Kd.R_old (by (with_reducible repeat (first | apply Kd.R_alloc | apply Kd.R_drewN | apply Kd.R_drew)); exact HO_518002.out) hb) (Kd.R_base ho0)) (Kd.R_base ho1)) (fun _ h_ => h_.1)); have n2_ := Aside0.mk (Kd.R_below (by (with_reducible repeat (first | apply Kd.R_alloc | apply Kd.R_drewN | apply Kd.R_drew)); exact HO543.out) hb); have n3_ := Aside0.mk (Kd.R_lower (Kd.R_new' ho0 (Kd.R_lt (by (with_reducible repeat (first | apply Kd.R_alloc | apply Kd.R_drewN | apply Kd.R_drew)); exact HO_518002.out))) (below_size (by repeat (first | (with_reducible first | exact HB.out | apply below_alloc | apply pw_below_drewN | apply below_drew1 | refine below_set ?_ GE509.out | refine below_set ?_ GE517.out | refine below_set ?_ GE522.out) | exact HB.out)))); have n4_ := Aside0.mk (Kd.R_lower (Kd.R_new' ho1 (Kd.R_lt (by (with_reducible repeat (first | apply Kd.R_alloc | apply Kd.R_drewN | apply Kd.R_drew)); exact HO_518002.out))) (below_size (by repeat (first | (with_reducible first | exact HB.out | apply below_alloc | apply pw_below_drewN | apply below_drew1 | refine below_set ?_ GE509.out | refine below_set ?_ GE517.out | refine below_set ?_ GE522.out) | exact HB.out)))); have n5_ := Aside0.mk (blk_below (g := gb509) (o := .cells #[.int .i64 x510000_2, .int .u64 x510001_2, .slice none 0 0] 25 (0, 0)) (by (with_reducible repeat (first | refine blk_drewN ?_ _ | refine blk_drew ?_ | refine blk_alloc ?_ _)); exact BK509.out) hb); have n6_ := Aside0.mk (blk_below (g := gb517) (o := .cells #[.int .i64 x518000_2, .int .u64 x518001_2, .slice Ao32 x518002_2.length co32] 25 (0, 0)) (by (with_reducible repeat (first | refine blk_drewN ?_ _ | refine blk_drew ?_ | refine blk_alloc ?_ _)); exact BK517.out) hb); have n7_ := Aside0.mk (blk_below (g := gb522) (o := .cells #[.int .i64 x518000_2, .int .u64 x518001_2, .slice Ao32 x518002_2.length co32] 25 (0, 0)) (by (with_reducible repeat (first | refine blk_drewN ?_ _ | refine blk_drew ?_ | refine blk_alloc ?_ _)); exact BK522.out) hb); have n8_ := Aside0.mk (below_step (by repeat (first | (with_reducible first | exact HB.out | apply below_alloc | apply pw_below_drewN | apply below_drew1 | refine below_set ?_ GE509.out | refine below_set ?_ GE517.out | refine below_set ?_ GE522.out) | exact HB.out)) hb); clear HO_10; clear HO_518002; clear HO543; clear BK509; clear BK517; clear BK522; clear HB; have HO_10 := n0_; have HO_518002 := n1_; have HO543 := n2_; have HO548 := n3_; have HO551 := n4_; have BK509 := n5_; have BK517 := n6_; have BK522 := n7_; have HB := n8_; clear n0_ n1_ n2_ n3_ n4_ n5_ n6_ n7_ n8_; (try clear hb); (try clear hb2); (try clear hk); (try clear hi); (try clear ho0); (try clear ho1); have hnb69 := NB522_509.out; have hnc69 := NB509_522.out; have hcz70_0 : w68.cell? ⟨gb522, 0, none⟩ = some (.int .i64 x518000_2) := (blk_cell BK522.out 0).trans rfl; have hcz70_1 : w68.cell? ⟨gb522, 1, none⟩ = some (.int .u64 x518001_2) := (blk_cell BK522.out 1).trans rfl; have hcz70_2 : w68.cell? ⟨gb522, 2, none⟩ = some (.slice Ao32 x518002_2.length co32) := (blk_cell BK522.out 2).trans rfl; have hfz70_0 := blk_frozen BK522.out 0; have hfz70_1 := blk_frozen BK522.out 1; have hfz70_2 := blk_frozen BK522.out 2; obtain ⟨Ao71, co71, eo71⟩ := Kd.R_slice HO548.out; subst eo71))
                        go_meet
                        case rel => exact ⟨_, (x10_2), (t552), (t544), (t545), (t546), (.slice Ao71 t546.length co71), (by first | rfl | (simp; done) | (simp [*]; done)), H', ⟨by have := HJ4.out; have := HK2.out; have := HJ18.out; first | omega | exact Nat.le_refl _⟩, ⟨by (with_reducible repeat (first | apply Kd.R_alloc | apply Kd.R_drewN | apply Kd.R_drew)); exact Kd.R_mono (Kd.R_far (p := ⟨gb522, 2, none⟩) (Kd.R_far (p := ⟨gb522, 1, none⟩) (Kd.R_far (p := ⟨gb522, 0, none⟩) (Kd.R_types HO_10.out BK522.out (by decide)) (fun _ hk => hk.2) (.int .i64 t544)) (fun _ hk => hk.2) (.int .u64 t545)) (fun _ hk => hk.2) (.slice Ao71 t546.length co71)) (fun _ hk => trivial)⟩, ⟨by (with_reducible repeat (first | apply Kd.R_alloc | apply Kd.R_drewN | apply Kd.R_drew)); exact Kd.R_mono (Kd.R_far (p := ⟨gb522, 2, none⟩) (Kd.R_far (p := ⟨gb522, 1, none⟩) (Kd.R_far (p := ⟨gb522, 0, none⟩) (Kd.R_types HO_518002.out BK522.out (by decide)) (fun _ hk => hk.2) (.int .i64 t544)) (fun _ hk => hk.2) (.int .u64 t545)) (fun _ hk => hk.2) (.slice Ao71 t546.length co71)) (fun _ hk => by first | exact hk.1.1.2 | trivial)⟩, ⟨by (with_reducible repeat (first | apply Kd.R_alloc | apply Kd.R_drewN | apply Kd.R_drew)); exact Kd.R_mono (Kd.R_far (p := ⟨gb522, 2, none⟩) (Kd.R_far (p := ⟨gb522, 1, none⟩) (Kd.R_far (p := ⟨gb522, 0, none⟩) (Kd.R_types HO548.out BK522.out (by decide)) (fun _ hk => hk.2) (.int .i64 t544)) (fun _ hk => hk.2) (.int .u64 t545)) (fun _ hk => hk.2) (.slice Ao71 t546.length co71)) (fun _ hk => by first | exact hk.1.2 | trivial)⟩, ⟨by (with_reducible repeat (first | refine blk_drewN ?_ _ | refine blk_drew ?_ | refine blk_alloc ?_ _)); refine blk_far ?_ NB509_522.out _; (with_reducible repeat (first | refine blk_drewN ?_ _ | refine blk_drew ?_ | refine blk_alloc ?_ _)); refine blk_far ?_ NB509_522.out _; (with_reducible repeat (first | refine blk_drewN ?_ _ | refine blk_drew ?_ | refine blk_alloc ?_ _)); refine blk_far ?_ NB509_522.out _; (with_reducible repeat (first | refine blk_drewN ?_ _ | refine blk_drew ?_ | refine blk_alloc ?_ _)); exact BK509.out⟩, ⟨by (with_reducible repeat (first | refine blk_drewN ?_ _ | refine blk_drew ?_ | refine blk_alloc ?_ _)); refine blk_far ?_ NB517_522.out _; (with_reducible repeat (first | refine blk_drewN ?_ _ | refine blk_drew ?_ | refine blk_alloc ?_ _)); refine blk_far ?_ NB517_522.out _; (with_reducible repeat (first | refine blk_drewN ?_ _ | refine blk_drew ?_ | refine blk_alloc ?_ _)); refine blk_far ?_ NB517_522.out _; (with_reducible repeat (first | refine blk_drewN ?_ _ | refine blk_drew ?_ | refine blk_alloc ?_ _)); exact BK517.out⟩, ⟨by (with_reducible repeat (first | refine blk_drewN ?_ _ | refine blk_drew ?_ | refine blk_alloc ?_ _)); refine blk_put (cs := #[.int .i64 t544, .int .u64 t545, .slice Ao32 x518002_2.length co32]) ?_ 2 _ rfl; (with_reducible repeat (first | refine blk_drewN ?_ _ | refine blk_drew ?_ | refine blk_alloc ?_ _)); refine blk_put (cs := #[.int .i64 t544, .int .u64 x518001_2, .slice Ao32 x518002_2.length co32]) ?_ 1 _ rfl; (with_reducible repeat (first | refine blk_drewN ?_ _ | refine blk_drew ?_ | refine blk_alloc ?_ _)); refine blk_put (cs := #[.int .i64 x518000_2, .int .u64 x518001_2, .slice Ao32 x518002_2.length co32]) ?_ 0 _ rfl; (with_reducible repeat (first | refine blk_drewN ?_ _ | refine blk_drew ?_ | refine blk_alloc ?_ _)); exact BK522.out⟩, ⟨by repeat (first | (with_reducible first | exact HB.out | apply below_alloc | apply pw_below_drewN | apply below_drew1 | refine below_set ?_ GE509.out | refine below_set ?_ GE517.out | refine below_set ?_ GE522.out) | exact HB.out)⟩⟩
                  case rest =>
                    clear HC25
                    try clear c1
                    try clear c2
                    try clear p2
                    try clear c3
                    try clear c4
                    try clear c5
                    try clear p5
                    try clear q5
                    try clear hx5
                    try clear c6
                    try clear p6
                    try clear c9
                    try clear c12
                    try clear c12b0
                    try clear c12b1
                    try clear c13
                    try clear c15
                    try clear c16
                    try clear c17
                    try clear c20
                    try clear c20b0
                    try clear c21
                    try clear c22
                    try clear c22b0
                    try clear c23
                    try clear c23b0
                    try clear c26
                    try clear c29
                    try clear c30
                    try clear c33
                    try clear c33b0
                    try clear c35
                    try clear c35b0
                    try clear c35b1
                    try clear c36
                    try clear c37
                    try clear c38
                    try clear c41
                    try clear c45
                    try clear c46
                    try clear c49
                    try clear c52
                    try clear c52b0
                    try clear c52b1
                    try clear p52
                    try clear q52
                    try clear hx52
                    try clear c54
                    try clear c55
                    try clear c58
                    try clear c62
                    try clear c63
                    try clear p64
                    try clear c69
                    try clear hcz10_0
                    try clear hcz10_1
                    try clear hcz10_2
                    try clear hcz14_0
                    try clear hcz14_1
                    try clear hcz14_2
                    try clear hcz17_0
                    try clear hcz17_1
                    try clear hcz17_2
                    try clear hcz18_0
                    try clear hcz18_1
                    try clear hcz18_2
                    try clear hcz27_0
                    try clear hcz27_1
                    try clear hcz27_2
                    try clear hcz31_0
                    try clear hcz31_1
                    try clear hcz31_2
                    try clear hcz39_0
                    try clear hcz39_1
                    try clear hcz39_2
                    try clear hcz42_0
                    try clear hcz42_1
                    try clear hcz42_2
                    try clear hcz47_0
                    try clear hcz47_1
                    try clear hcz47_2
                    try clear hcz50_0
                    try clear hcz50_1
                    try clear hcz50_2
                    try clear hcz56_0
                    try clear hcz56_1
                    try clear hcz56_2
                    try clear hcz59_0
                    try clear hcz59_1
                    try clear hcz59_2
                    try clear hcz64_0
                    try clear hcz64_1
                    try clear hcz64_2
                    try clear hcz70_0
                    try clear hcz70_1
                    try clear hcz70_2
                    try clear hfz10_0
                    try clear hfz10_1
                    try clear hfz10_2
                    try clear hfz14_0
                    try clear hfz14_1
                    try clear hfz14_2
                    try clear hfz17_0
                    try clear hfz17_1
                    try clear hfz17_2
                    try clear hfz18_0
                    try clear hfz18_1
                    try clear hfz18_2
                    try clear hfz27_0
                    try clear hfz27_1
                    try clear hfz27_2
                    try clear hfz31_0
                    try clear hfz31_1
                    try clear hfz31_2
                    try clear hfz39_0
                    try clear hfz39_1
                    try clear hfz39_2
                    try clear hfz42_0
                    try clear hfz42_1
                    try clear hfz42_2
                    try clear hfz47_0
                    try clear hfz47_1
                    try clear hfz47_2
                    try clear hfz50_0
                    try clear hfz50_1
                    try clear hfz50_2
                    try clear hfz56_0
                    try clear hfz56_1
                    try clear hfz56_2
                    try clear hfz59_0
                    try clear hfz59_1
                    try clear hfz59_2
                    try clear hfz64_0
                    try clear hfz64_1
                    try clear hfz64_2
                    try clear hfz70_0
                    try clear hfz70_1
                    try clear hfz70_2
                    try clear hx520_0
                    try clear p2
                    try clear p520
                    try clear p6
                    try clear q520
                    obtain ⟨kq, x10_24, x14_24, x523000_24, x523001_24, x523002_24, u523002, rfl, HA, HJ24, HO_10, HO_518002, HO_523002, BK509, BK517, BK522, HB⟩ := hcut
                    cases kq with
                    | zero => exact absurd HA.out (by simp [L05_made.j3])
                    | succ kj24 =>
                      have H := HA.out
                      clear HA
                      simp only [L05_made.j3] at H
                      by_cases c72 : x14_24 = 0
                      · rw [if_pos c72] at H
                        have c72b0 : (x14_24 == 0) = true := beq_iff_eq.mpr c72
                        have c72b1 : (x14_24 != 0) = false := bne_eq_false_iff_eq.mpr c72
                        clear c72
                        have H' := Aside0.mk H
                        clear H
                        have hnb73 := NB522_509.out
                        have hnc73 := NB509_522.out
                        have hnb74 := NB522_517.out
                        have hnc74 := NB517_522.out
                        have hcz75_0 : wc.cell? ⟨gb522, 0, none⟩ = some (.int .i64 x523000_24) := (blk_cell BK522.out 0).trans rfl
                        have hcz75_1 : wc.cell? ⟨gb522, 1, none⟩ = some (.int .u64 x523001_24) := (blk_cell BK522.out 1).trans rfl
                        have hcz75_2 : wc.cell? ⟨gb522, 2, none⟩ = some (u523002) := (blk_cell BK522.out 2).trans rfl
                        have hfz75_0 := blk_frozen BK522.out 0
                        have hfz75_1 := blk_frozen BK522.out 1
                        have hfz75_2 := blk_frozen BK522.out 2
                        have hnb76 := NB517_509.out
                        have hnc76 := NB509_517.out
                        have hcz77_0 : wc.cell? ⟨gb517, 0, none⟩ = some (.int .i64 x518000_2) := (blk_cell BK517.out 0).trans rfl
                        have hcz77_1 : wc.cell? ⟨gb517, 1, none⟩ = some (.int .u64 x518001_2) := (blk_cell BK517.out 1).trans rfl
                        have hcz77_2 : wc.cell? ⟨gb517, 2, none⟩ = some (.slice Ao32 x518002_2.length co32) := (blk_cell BK517.out 2).trans rfl
                        have hfz77_0 := blk_frozen BK517.out 0
                        have hfz77_1 := blk_frozen BK517.out 1
                        have hfz77_2 := blk_frozen BK517.out 2
                        obtain ⟨Ao78, co78, eo78⟩ := Kd.R_slice HO_523002.out
                        subst eo78
                        go_wp2
                        go_roundg kj24
                        case measure => have := HJ4.out; have := HK2.out; have := HJ18.out; have := HJ24.out; omega
                        case rel => exact ⟨(x10_24), (wrap64 (x11_2 + 1)), (x510000_2), (x510001_2), (x523000_24), (x523001_24), (x523002_24), (.slice Ao78 x523002_24.length co78), (by first | rfl | (simp; done) | (simp [*]; done)), H', ⟨by have := HJ4.out; have := HK2.out; have := HJ18.out; have := HJ24.out; omega⟩, ⟨by (with_reducible repeat (first | apply Kd.R_alloc | apply Kd.R_drewN | apply Kd.R_drew)); exact Kd.R_mono (Kd.R_far (p := ⟨gb517, 2, none⟩) (Kd.R_far (p := ⟨gb517, 1, none⟩) (Kd.R_far (p := ⟨gb517, 0, none⟩) (Kd.R_types HO_10.out BK517.out (by decide)) (fun _ hk => hk.2) (.int .i64 x523000_24)) (fun _ hk => hk.2) (.int .u64 x523001_24)) (fun _ hk => hk.2) (.slice Ao78 x523002_24.length co78)) (fun _ hk => trivial)⟩, ⟨by (with_reducible repeat (first | apply Kd.R_alloc | apply Kd.R_drewN | apply Kd.R_drew)); exact Kd.R_mono (Kd.R_far (p := ⟨gb517, 2, none⟩) (Kd.R_far (p := ⟨gb517, 1, none⟩) (Kd.R_far (p := ⟨gb517, 0, none⟩) (Kd.R_types HO_523002.out BK517.out (by decide)) (fun _ hk => hk.2) (.int .i64 x523000_24)) (fun _ hk => hk.2) (.int .u64 x523001_24)) (fun _ hk => hk.2) (.slice Ao78 x523002_24.length co78)) (fun _ hk => trivial)⟩, ⟨by (with_reducible repeat (first | refine blk_drewN ?_ _ | refine blk_drew ?_ | refine blk_alloc ?_ _)); refine blk_far ?_ NB509_517.out _; (with_reducible repeat (first | refine blk_drewN ?_ _ | refine blk_drew ?_ | refine blk_alloc ?_ _)); refine blk_far ?_ NB509_517.out _; (with_reducible repeat (first | refine blk_drewN ?_ _ | refine blk_drew ?_ | refine blk_alloc ?_ _)); refine blk_far ?_ NB509_517.out _; (with_reducible repeat (first | refine blk_drewN ?_ _ | refine blk_drew ?_ | refine blk_alloc ?_ _)); exact BK509.out⟩, ⟨by (with_reducible repeat (first | refine blk_drewN ?_ _ | refine blk_drew ?_ | refine blk_alloc ?_ _)); refine blk_put (cs := #[.int .i64 x523000_24, .int .u64 x523001_24, .slice Ao32 x518002_2.length co32]) ?_ 2 _ rfl; (with_reducible repeat (first | refine blk_drewN ?_ _ | refine blk_drew ?_ | refine blk_alloc ?_ _)); refine blk_put (cs := #[.int .i64 x523000_24, .int .u64 x518001_2, .slice Ao32 x518002_2.length co32]) ?_ 1 _ rfl; (with_reducible repeat (first | refine blk_drewN ?_ _ | refine blk_drew ?_ | refine blk_alloc ?_ _)); refine blk_put (cs := #[.int .i64 x518000_2, .int .u64 x518001_2, .slice Ao32 x518002_2.length co32]) ?_ 0 _ rfl; (with_reducible repeat (first | refine blk_drewN ?_ _ | refine blk_drew ?_ | refine blk_alloc ?_ _)); exact BK517.out⟩, ⟨by repeat (first | (with_reducible first | exact HB.out | apply below_alloc | apply pw_below_drewN | apply below_drew1 | refine below_set ?_ GE509.out | refine below_set ?_ GE517.out | refine below_set ?_ GE522.out) | exact HB.out)⟩⟩
                      · rw [if_neg c72] at H
                        have c72b0 : (x14_24 == 0) = false := beq_eq_false_iff_ne.mpr c72
                        have c72b1 : (x14_24 != 0) = true := bne_iff_ne.mpr c72
                        by_cases c79 : x14_24 = 5
                        · rw [if_pos c79] at H
                          have c79b0 : (x14_24 == 5) = true := beq_iff_eq.mpr c79
                          have c79b1 : (x14_24 != 5) = false := bne_eq_false_iff_eq.mpr c79
                          clear c79
                          have H' := Aside0.mk H
                          clear H
                          go_wp2
                          go_roundg kj24
                          case measure => have := HJ4.out; have := HK2.out; have := HJ18.out; have := HJ24.out; omega
                          case rel => exact ⟨(x10_24), (wrap64 (x11_2 + 1)), (x510000_2), (x510001_2), (x518000_2), (x518001_2), (x518002_2), (.slice Ao32 x518002_2.length co32), (by first | rfl | (simp; done) | (simp [*]; done)), H', ⟨by have := HJ4.out; have := HK2.out; have := HJ18.out; have := HJ24.out; omega⟩, ⟨by (with_reducible repeat (first | apply Kd.R_alloc | apply Kd.R_drewN | apply Kd.R_drew)); exact HO_10.out⟩, ⟨by (with_reducible repeat (first | apply Kd.R_alloc | apply Kd.R_drewN | apply Kd.R_drew)); exact HO_518002.out⟩, ⟨by (with_reducible repeat (first | refine blk_drewN ?_ _ | refine blk_drew ?_ | refine blk_alloc ?_ _)); exact BK509.out⟩, ⟨by (with_reducible repeat (first | refine blk_drewN ?_ _ | refine blk_drew ?_ | refine blk_alloc ?_ _)); exact BK517.out⟩, ⟨by repeat (first | (with_reducible first | exact HB.out | apply below_alloc | apply pw_below_drewN | apply below_drew1 | refine below_set ?_ GE509.out | refine below_set ?_ GE517.out | refine below_set ?_ GE522.out) | exact HB.out)⟩⟩
                        · rw [if_neg c79] at H
                          have c79b0 : (x14_24 == 5) = false := beq_eq_false_iff_ne.mpr c79
                          have c79b1 : (x14_24 != 5) = true := bne_iff_ne.mpr c79
                          by_cases c80 : x14_24 = 6
                          · rw [if_pos c80] at H
                            have c80b0 : (x14_24 == 6) = true := beq_iff_eq.mpr c80
                            have c80b1 : (x14_24 != 6) = false := bne_eq_false_iff_eq.mpr c80
                            clear c80
                            have H' := Aside0.mk H
                            clear H
                            go_wp2
                            go_roundg kj24
                            case measure => have := HJ4.out; have := HK2.out; have := HJ18.out; have := HJ24.out; omega
                            case rel => exact ⟨(x10_24), (wrap64 (x11_2 + 1)), (x510000_2), (x510001_2), (x518000_2), (x518001_2), (x518002_2), (.slice Ao32 x518002_2.length co32), (by first | rfl | (simp; done) | (simp [*]; done)), H', ⟨by have := HJ4.out; have := HK2.out; have := HJ18.out; have := HJ24.out; omega⟩, ⟨by (with_reducible repeat (first | apply Kd.R_alloc | apply Kd.R_drewN | apply Kd.R_drew)); exact HO_10.out⟩, ⟨by (with_reducible repeat (first | apply Kd.R_alloc | apply Kd.R_drewN | apply Kd.R_drew)); exact HO_518002.out⟩, ⟨by (with_reducible repeat (first | refine blk_drewN ?_ _ | refine blk_drew ?_ | refine blk_alloc ?_ _)); exact BK509.out⟩, ⟨by (with_reducible repeat (first | refine blk_drewN ?_ _ | refine blk_drew ?_ | refine blk_alloc ?_ _)); exact BK517.out⟩, ⟨by repeat (first | (with_reducible first | exact HB.out | apply below_alloc | apply pw_below_drewN | apply below_drew1 | refine below_set ?_ GE509.out | refine below_set ?_ GE517.out | refine below_set ?_ GE522.out) | exact HB.out)⟩⟩
                          · rw [if_neg c80] at H
                            have c80b0 : (x14_24 == 6) = false := beq_eq_false_iff_ne.mpr c80
                            have c80b1 : (x14_24 != 6) = true := bne_iff_ne.mpr c80
                            simp only [Option.some.injEq, Prod.mk.injEq] at H
                            obtain ⟨rfl, rfl, rfl, rfl, rfl⟩ := H
                            have hnb81 := NB517_509.out
                            have hnc81 := NB509_517.out
                            have hnb82 := NB517_522.out
                            have hnc82 := NB522_517.out
                            have hcz83_0 : wc.cell? ⟨gb517, 0, none⟩ = some (.int .i64 x518000_2) := (blk_cell BK517.out 0).trans rfl
                            have hcz83_1 : wc.cell? ⟨gb517, 1, none⟩ = some (.int .u64 x518001_2) := (blk_cell BK517.out 1).trans rfl
                            have hcz83_2 : wc.cell? ⟨gb517, 2, none⟩ = some (.slice Ao32 x518002_2.length co32) := (blk_cell BK517.out 2).trans rfl
                            have hfz83_0 := blk_frozen BK517.out 0
                            have hfz83_1 := blk_frozen BK517.out 1
                            have hfz83_2 := blk_frozen BK517.out 2
                            have hnb84 := NB509_522.out
                            have hnc84 := NB522_509.out
                            have hcz85_0 : wc.cell? ⟨gb509, 0, none⟩ = some (.int .i64 x510000_2) := (blk_cell BK509.out 0).trans rfl
                            have hcz85_1 : wc.cell? ⟨gb509, 1, none⟩ = some (.int .u64 x510001_2) := (blk_cell BK509.out 1).trans rfl
                            have hcz85_2 : wc.cell? ⟨gb509, 2, none⟩ = some (.slice none 0 0) := (blk_cell BK509.out 2).trans rfl
                            have hfz85_0 := blk_frozen BK509.out 0
                            have hfz85_1 := blk_frozen BK509.out 1
                            have hfz85_2 := blk_frozen BK509.out 2
                            go_wp2
                            all_goals refine bodyPost_ret (results_ctt rfl _ _ gb509 25 #[.int .i64 x518000_2, .int .u64 x518001_2, .slice Ao32 x518002_2.length co32] (0, 0) _ rfl (by (with_reducible repeat (first | refine blk_drewN ?_ _ | refine blk_drew ?_ | refine blk_alloc ?_ _)); refine blk_put (cs := #[.int .i64 x518000_2, .int .u64 x518001_2, .slice none 0 0]) ?_ 2 _ rfl; (with_reducible repeat (first | refine blk_drewN ?_ _ | refine blk_drew ?_ | refine blk_alloc ?_ _)); refine blk_put (cs := #[.int .i64 x518000_2, .int .u64 x510001_2, .slice none 0 0]) ?_ 1 _ rfl; (with_reducible repeat (first | refine blk_drewN ?_ _ | refine blk_drew ?_ | refine blk_alloc ?_ _)); refine blk_put (cs := #[.int .i64 x510000_2, .int .u64 x510001_2, .slice none 0 0]) ?_ 0 _ rfl; (with_reducible repeat (first | refine blk_drewN ?_ _ | refine blk_drew ?_ | refine blk_alloc ?_ _)); exact BK509.out) Try.underlying25 rfl (by kernel_rfl)) rfl ?_
                            all_goals exact ⟨_, _, by first | rfl | (simp [errW_none, errW_some] <;> rfl) | (simp [*, errW_none, errW_some] <;> rfl), by (with_reducible repeat (first | apply Kd.R_alloc | apply Kd.R_drewN | apply Kd.R_drew)); exact Kd.R_mono (Kd.R_far (p := ⟨gb509, 2, none⟩) (Kd.R_far (p := ⟨gb509, 1, none⟩) (Kd.R_far (p := ⟨gb509, 0, none⟩) (Kd.R_types HO_518002.out BK509.out (by decide)) (fun _ hk => hk.2) (.int .i64 x518000_2)) (fun _ hk => hk.2) (.int .u64 x518001_2)) (fun _ hk => hk.2) (.slice Ao32 x518002_2.length co32)) (fun _ hk => trivial), by (with_reducible repeat (first | apply Kd.R_alloc | apply Kd.R_drewN | apply Kd.R_drew)); exact Kd.R_mono (Kd.R_far (p := ⟨gb509, 2, none⟩) (Kd.R_far (p := ⟨gb509, 1, none⟩) (Kd.R_far (p := ⟨gb509, 0, none⟩) (Kd.R_types HO_10.out BK509.out (by decide)) (fun _ hk => hk.2) (.int .i64 x518000_2)) (fun _ hk => hk.2) (.int .u64 x518001_2)) (fun _ hk => hk.2) (.slice Ao32 x518002_2.length co32)) (fun _ hk => trivial), by repeat (first | (with_reducible first | exact HB.out | apply below_alloc | apply pw_below_drewN | apply below_drew1 | refine below_set ?_ GE509.out | refine below_set ?_ GE517.out | refine below_set ?_ GE522.out) | exact HB.out)⟩
                · replace c21 := Bool.eq_false_iff.mpr c21
                  subst c21
                  have H1 : ((ring_Check.f kj18 x518000_2 x518001_2 x518002_2).bind fun bt518 => (if bt518.1 = 0 then (some (x518000_2, x518001_2, x518002_2, x10_2, (x518000_2 == (wrap64 (1 + t510))))) else (some (x518000_2, x518001_2, x518002_2, x10_2, false)))) = some (r1, r2, r3, r4, r5) := by rw [if_neg (show ¬ (false = true) by decide)] at H; exact H
                  clear H
                  have H := H1
                  clear H1
                  replace H := Option.bind_eq_some_iff.mp H
                  obtain ⟨⟨t518, t519⟩, A860, H⟩ := H
                  replace H : (if t518 = 0 then (some (x518000_2, x518001_2, x518002_2, x10_2, (x518000_2 == (wrap64 (1 + t510))))) else (some (x518000_2, x518001_2, x518002_2, x10_2, false))) = some (r1, r2, r3, r4, r5) := H
                  have A86 := Aside0.mk A860
                  clear A860
                  by_cases c87 : t518 = 0
                  · rw [if_pos c87] at H
                    have c87b0 : (t518 == 0) = true := beq_iff_eq.mpr c87
                    have c87b1 : (t518 != 0) = false := bne_eq_false_iff_eq.mpr c87
                    clear c87
                    simp only [Option.some.injEq, Prod.mk.injEq] at H
                    obtain ⟨rfl, rfl, rfl, rfl, rfl⟩ := H
                    have hnb88 := NB517_509.out
                    have hnc88 := NB509_517.out
                    have hcz89_0 : wc.cell? ⟨gb517, 0, none⟩ = some (.int .i64 x518000_2) := (blk_cell BK517.out 0).trans rfl
                    have hcz89_1 : wc.cell? ⟨gb517, 1, none⟩ = some (.int .u64 x518001_2) := (blk_cell BK517.out 1).trans rfl
                    have hcz89_2 : wc.cell? ⟨gb517, 2, none⟩ = some (u518002) := (blk_cell BK517.out 2).trans rfl
                    have hfz89_0 := blk_frozen BK517.out 0
                    have hfz89_1 := blk_frozen BK517.out 1
                    have hfz89_2 := blk_frozen BK517.out 2
                    obtain ⟨Ao90, co90, eo90⟩ := Kd.R_slice HO_518002.out
                    subst eo90
                    try go_wp2_with (first | ((with_reducible refine gate_callee (f := 23) rfl ?_); refine goesL_ (some 106) rfl rfl Try.func23 (by kernel_rfl) rfl #[.agg #[.int .i64 x518000_2, .int .u64 x518001_2, .slice Ao90 x518002_2.length co90]] rfl (by (try simp only [List.map_toArray, List.map_cons, List.map_nil]); first | done | rfl | (simp only [List.length_drop, List.length_take]; rfl)) ?_; (with_reducible refine (ring_Check.calls kj18 x518000_2 x518001_2 _ _ x518002_2 t518 t519 _ ?side1 ?side2 A86.out).mono ?_); (case side1 => repeat (first | exact (Kd.R_reads' HO_518002.out).2.2 | (with_reducible refine Kd.C_alloc ?_ _) | (with_reducible refine Kd.C_drewN ?_ _) | (with_reducible refine Kd.C_drew ?_))); (case side2 => exact (Kd.R_reads' HO_518002.out).2.1); rintro e w91 ⟨rfl, hb⟩; refine ⟨_, rfl, ?_⟩; have n0_ := Aside0.mk (Kd.R_below (by (with_reducible repeat (first | apply Kd.R_alloc | apply Kd.R_drewN | apply Kd.R_drew)); exact HO_10.out) hb); have n1_ := Aside0.mk (Kd.R_below (by (with_reducible repeat (first | apply Kd.R_alloc | apply Kd.R_drewN | apply Kd.R_drew)); exact HO_518002.out) hb); have n2_ := Aside0.mk (blk_below (g := gb509) (o := .cells #[.int .i64 x510000_2, .int .u64 x510001_2, .slice none 0 0] 25 (0, 0)) (by (with_reducible repeat (first | refine blk_drewN ?_ _ | refine blk_drew ?_ | refine blk_alloc ?_ _)); exact BK509.out) hb); have n3_ := Aside0.mk (blk_below (g := gb517) (o := .cells #[.int .i64 x518000_2, .int .u64 x518001_2, .slice Ao90 x518002_2.length co90] 25 (0, 0)) (by (with_reducible repeat (first | refine blk_drewN ?_ _ | refine blk_drew ?_ | refine blk_alloc ?_ _)); exact BK517.out) hb); have n4_ := Aside0.mk (below_step (by repeat (first | (with_reducible first | exact HB.out | apply below_alloc | apply pw_below_drewN | apply below_drew1 | refine below_set ?_ GE509.out | refine below_set ?_ GE517.out) | exact HB.out)) hb); clear HO_10; clear HO_518002; clear BK509; clear BK517; clear HB; have HO_10 := n0_; have HO_518002 := n1_; have BK509 := n2_; have BK517 := n3_; have HB := n4_; clear n0_ n1_ n2_ n3_ n4_; (try clear hb); (try clear hb2); (try clear hk); (try clear hi)))
                    have n0_ := Aside0.mk (Kd.R_drew HO_10.out)
                    have n1_ := Aside0.mk (Kd.R_drew HO_518002.out)
                    have n2_ := Aside0.mk (blk_drew BK509.out)
                    have n3_ := Aside0.mk (blk_drew BK517.out)
                    have n4_ := Aside0.mk (below_drew1 HB.out)
                    clear HO_10
                    clear HO_518002
                    clear BK509
                    clear BK517
                    clear HB
                    have HO_10 := n0_
                    have HO_518002 := n1_
                    have BK509 := n2_
                    have BK517 := n3_
                    have HB := n4_
                    clear n0_ n1_ n2_ n3_ n4_
                    refine start_ (n := 13) (S := fun w' => w'.cell? ⟨gb517, 0, none⟩ = some (.int .i64 x518000_2) ∧ w'.cell? ⟨gb517, 1, none⟩ = some (.int .u64 x518001_2) ∧ w'.cell? ⟨gb517, 2, none⟩ = some (.slice Ao90 x518002_2.length co90)) (ds := []) #[false, false, false, false, false, false, false, false, false, false, false, false, false] (by kernel_rfl) rfl rfl ⟨(blk_cell BK517.out 0).trans rfl, (blk_cell BK517.out 1).trans rfl, (blk_cell BK517.out 2).trans rfl⟩ (fun hHeld => ?_); refine with_tabW L05_made.tab27 L05_made.bits27 (fun HT_ HW_ => ?_)
                    generalize w91.drew = w92 at HO_10 HO_518002 BK509 BK517 HB hHeld ⊢
                    refine pure_ (i := 1) (N := some 110) (v := ?_) (a' := ?_) #[false, true, false, false, false, false, false, false, false, false, false, false, false] rfl rfl (any_of HT_.out (by kernel_rfl)) (fun _ _ _ h => h) (Or.inl ⟨by rfl, ?_⟩) ?_ ?_
                    rotate_left
                    · intro w'
                      go_simp
                      with_reducible rfl
                    rotate_left
                    · simp only [Act.put, List.setIfInBounds_toArray, List.set_cons_zero, List.set_cons_succ, i64_w, i32_w]
                      rfl
                    refine pure_ (i := 2) (N := some 111) (v := ?_) (a' := ?_) #[false, true, true, false, false, false, false, false, false, false, false, false, false] rfl rfl (any_of HT_.out (by kernel_rfl)) (fun _ _ _ h => h) (Or.inl ⟨by rfl, ?_⟩) ?_ ?_
                    rotate_left
                    · intro w'
                      go_simp
                      with_reducible rfl
                    rotate_left
                    · simp only [Act.put, List.setIfInBounds_toArray, List.set_cons_zero, List.set_cons_succ, i64_w, i32_w]
                      rfl
                    refine pure_ (i := 3) (N := some 112) (v := ?_) (a' := ?_) #[false, true, true, true, false, false, false, false, false, false, false, false, false] rfl rfl (any_of HT_.out (by kernel_rfl)) (fun _ _ _ h => h) (Or.inl ⟨by rfl, ?_⟩) ?_ ?_
                    rotate_left
                    · intro w'
                      go_simp
                      with_reducible rfl
                    rotate_left
                    · simp only [Act.put, List.setIfInBounds_toArray, List.set_cons_zero, List.set_cons_succ, i64_w, i32_w]
                      rfl
                    refine pure_ (i := 4) (N := some 113) (v := ?_) (a' := ?_) #[false, true, true, true, true, false, false, false, false, false, false, false, false] rfl rfl (any_of HT_.out (by kernel_rfl)) (fun _ _ _ h => h) (Or.inl ⟨by rfl, ?_⟩) ?_ ?_
                    rotate_left
                    · intro w'
                      go_simp
                      with_reducible rfl
                    rotate_left
                    · simp only [Act.put, List.setIfInBounds_toArray, List.set_cons_zero, List.set_cons_succ, i64_w, i32_w]
                      rfl
                    refine pure_ (i := 5) (N := some 114) (v := ?_) (a' := ?_) #[false, true, true, true, true, true, false, false, false, false, false, false, false] rfl rfl (any_of HT_.out (by kernel_rfl)) (fun _ _ _ h => h) (Or.inl ⟨by rfl, ?_⟩) ?_ ?_
                    rotate_left
                    · intro w'
                      go_simp
                      with_reducible rfl
                    rotate_left
                    · simp only [Act.put, List.setIfInBounds_toArray, List.set_cons_zero, List.set_cons_succ, i64_w, i32_w]
                      rfl
                    refine pure_ (i := 7) (N := some 116) (v := ?_) (a' := ?_) #[false, true, true, true, true, true, false, true, false, false, false, false, false] rfl rfl (any_of HT_.out (by kernel_rfl)) (fun _ _ _ h => h) (Or.inl ⟨by rfl, ?_⟩) ?_ ?_
                    rotate_left
                    · intro w'
                      go_simp
                      with_reducible rfl
                    rotate_left
                    · simp only [Act.put, List.setIfInBounds_toArray, List.set_cons_zero, List.set_cons_succ, i64_w, i32_w]
                      rfl
                    refine take_ (i := 0) (N := some 109) (v := ?_) (a' := ?_) #[true, true, true, true, true, true, false, true, false, false, false, false, false] rfl rfl (take_ofW HT_.out HW_.out (by kernel_rfl)) (fun _ _ _ h => h) (Or.inl ⟨by rfl, ?_⟩) hHeld ?_ ?_
                    rotate_left
                    · rintro w' ⟨s0, s1, s2⟩
                      go_simp
                      with_reducible rfl
                    rotate_left
                    · simp only [Act.put, List.setIfInBounds_toArray, List.set_cons_zero, List.set_cons_succ, i64_w, i32_w]
                      rfl
                    refine take_ (i := 6) (N := some 115) (v := ?_) (a' := ?_) #[true, true, true, true, true, true, true, true, false, false, false, false, false] rfl rfl (take_ofW HT_.out HW_.out (by kernel_rfl)) (fun _ _ _ h => h) (Or.inl ⟨by rfl, ?_⟩) hHeld ?_ ?_
                    rotate_left
                    · rintro w' ⟨s0, s1, s2⟩
                      go_simp
                      with_reducible rfl
                    rotate_left
                    · simp only [Act.put, List.setIfInBounds_toArray, List.set_cons_zero, List.set_cons_succ, i64_w, i32_w]
                      rfl
                    refine pure_ (i := 8) (N := some 117) (v := ?_) (a' := ?_) #[true, true, true, true, true, true, true, true, true, false, false, false, false] rfl rfl (any_of HT_.out (by kernel_rfl)) (fun _ _ _ h => h) (Or.inl ⟨by rfl, ?_⟩) ?_ ?_
                    rotate_left
                    · intro w'
                      go_simp
                      with_reducible rfl
                    rotate_left
                    · simp only [Act.put, List.setIfInBounds_toArray, List.set_cons_zero, List.set_cons_succ, i64_w, i32_w]
                      rfl
                    refine pure_ (i := 9) (N := some 118) (v := ?_) (a' := ?_) #[true, true, true, true, true, true, true, true, true, true, false, false, false] rfl rfl (any_of HT_.out (by kernel_rfl)) (fun _ _ _ h => h) (Or.inl ⟨by rfl, ?_⟩) ?_ ?_
                    rotate_left
                    · intro w'
                      go_simp
                      with_reducible rfl
                    rotate_left
                    · simp only [Act.put, List.setIfInBounds_toArray, List.set_cons_zero, List.set_cons_succ, i64_w, i32_w]
                      rfl
                    refine one_ (i := 10) (N := none) #[true, true, true, true, true, true, true, true, true, true, true, false, false] rfl rfl (one_of HT_.out (by kernel_rfl)) (by decide) (fun K hK => ?_)
                    have hs93 : w92.cell? ⟨gb509, 0, none⟩ = some (.int .i64 x510000_2) := (blk_cell BK509.out 0).trans rfl
                    have hfs93 := blk_frozen BK509.out 0
                    have hns93_1 := NB517_509.out
                    have hms93_1 := NB509_517.out
                    have hs94 : w92.cell? ⟨gb509, 1, none⟩ = some (.int .u64 x510001_2) := (blk_cell BK509.out 1).trans rfl
                    have hfs94 := blk_frozen BK509.out 1
                    have hns94_1 := NB517_509.out
                    have hms94_1 := NB509_517.out
                    have hs95 : w92.cell? ⟨gb509, 2, none⟩ = some (.slice none 0 0) := (blk_cell BK509.out 2).trans rfl
                    have hfs95 := blk_frozen BK509.out 2
                    have hns95_1 := NB517_509.out
                    have hms95_1 := NB509_517.out
                    refine skip_ (w1 := ?_) (by rfl) rfl ?_ ?_
                    rotate_left
                    · go_simp
                      rfl
                    refine hK.out _ _ ⟨((cell_far (p := ⟨gb509, _, none⟩) NB517_509.out _).trans (((cell_far (p := ⟨gb509, _, none⟩) NB517_509.out _).trans (((cell_far (p := ⟨gb509, _, none⟩) NB517_509.out _).trans (hHeld.1)))))), ((cell_far (p := ⟨gb509, _, none⟩) NB517_509.out _).trans (((cell_far (p := ⟨gb509, _, none⟩) NB517_509.out _).trans (((cell_far (p := ⟨gb509, _, none⟩) NB517_509.out _).trans (hHeld.2.1)))))), ((cell_far (p := ⟨gb509, _, none⟩) NB517_509.out _).trans (((cell_far (p := ⟨gb509, _, none⟩) NB517_509.out _).trans (((cell_far (p := ⟨gb509, _, none⟩) NB517_509.out _).trans (hHeld.2.2))))))⟩ (fun hHeld => ?_)
                    clear hK K
                    refine pure_ (i := 11) (N := some 5) (v := ?_) (a' := ?_) #[true, true, true, true, true, true, true, true, true, true, true, true, false] rfl rfl (any_of HT_.out (by kernel_rfl)) (fun _ _ _ h => h) (Or.inl ⟨by rfl, ?_⟩) ?_ ?_
                    rotate_left
                    · intro w'
                      go_simp
                      with_reducible rfl
                    rotate_left
                    · simp only [Act.put, List.setIfInBounds_toArray, List.set_cons_zero, List.set_cons_succ, i64_w, i32_w]
                      rfl
                    refine pure_ (i := 12) (N := some 6) (v := ?_) (a' := ?_) #[true, true, true, true, true, true, true, true, true, true, true, true, true] rfl rfl (any_of HT_.out (by kernel_rfl)) (fun _ _ _ h => h) (Or.inl ⟨by rfl, ?_⟩) ?_ ?_
                    rotate_left
                    · intro w'
                      go_simp
                      with_reducible rfl
                    rotate_left
                    · simp only [Act.put, List.setIfInBounds_toArray, List.set_cons_zero, List.set_cons_succ, i64_w, i32_w]
                      rfl
                    refine done_ (done_of HT_.out (by kernel_rfl)) ?_
                    try go_wp2
                    all_goals refine bodyPost_ret (results_ctt rfl _ _ gb509 25 #[.int .i64 x518000_2, .int .u64 x518001_2, .slice Ao90 x518002_2.length co90] (0, 0) _ rfl (by (with_reducible repeat (first | refine blk_drewN ?_ _ | refine blk_drew ?_ | refine blk_alloc ?_ _)); refine blk_put (cs := #[.int .i64 x518000_2, .int .u64 x518001_2, .slice none 0 0]) ?_ 2 _ rfl; (with_reducible repeat (first | refine blk_drewN ?_ _ | refine blk_drew ?_ | refine blk_alloc ?_ _)); refine blk_put (cs := #[.int .i64 x518000_2, .int .u64 x510001_2, .slice none 0 0]) ?_ 1 _ rfl; (with_reducible repeat (first | refine blk_drewN ?_ _ | refine blk_drew ?_ | refine blk_alloc ?_ _)); refine blk_put (cs := #[.int .i64 x510000_2, .int .u64 x510001_2, .slice none 0 0]) ?_ 0 _ rfl; (with_reducible repeat (first | refine blk_drewN ?_ _ | refine blk_drew ?_ | refine blk_alloc ?_ _)); exact BK509.out) Try.underlying25 rfl (by kernel_rfl)) rfl ?_
                    all_goals exact ⟨_, _, by first | rfl | (simp [errW_none, errW_some] <;> rfl) | (simp [*, errW_none, errW_some] <;> rfl), by (with_reducible repeat (first | apply Kd.R_alloc | apply Kd.R_drewN | apply Kd.R_drew)); exact Kd.R_mono (Kd.R_far (p := ⟨gb509, 2, none⟩) (Kd.R_far (p := ⟨gb509, 1, none⟩) (Kd.R_far (p := ⟨gb509, 0, none⟩) (Kd.R_types HO_518002.out BK509.out (by decide)) (fun _ hk => hk.2) (.int .i64 x518000_2)) (fun _ hk => hk.2) (.int .u64 x518001_2)) (fun _ hk => hk.2) (.slice Ao90 x518002_2.length co90)) (fun _ hk => trivial), by (with_reducible repeat (first | apply Kd.R_alloc | apply Kd.R_drewN | apply Kd.R_drew)); exact Kd.R_mono (Kd.R_far (p := ⟨gb509, 2, none⟩) (Kd.R_far (p := ⟨gb509, 1, none⟩) (Kd.R_far (p := ⟨gb509, 0, none⟩) (Kd.R_types HO_10.out BK509.out (by decide)) (fun _ hk => hk.2) (.int .i64 x518000_2)) (fun _ hk => hk.2) (.int .u64 x518001_2)) (fun _ hk => hk.2) (.slice Ao90 x518002_2.length co90)) (fun _ hk => trivial), by repeat (first | (with_reducible first | exact HB.out | apply below_alloc | apply pw_below_drewN | apply below_drew1 | refine below_set ?_ GE509.out | refine below_set ?_ GE517.out) | exact HB.out)⟩
                  · rw [if_neg c87] at H
                    have c87b0 : (t518 == 0) = false := beq_eq_false_iff_ne.mpr c87
                    have c87b1 : (t518 != 0) = true := bne_iff_ne.mpr c87
                    simp only [Option.some.injEq, Prod.mk.injEq] at H
                    obtain ⟨rfl, rfl, rfl, rfl, rfl⟩ := H
                    have hnb96 := NB517_509.out
                    have hnc96 := NB509_517.out
                    have hcz97_0 : wc.cell? ⟨gb517, 0, none⟩ = some (.int .i64 x518000_2) := (blk_cell BK517.out 0).trans rfl
                    have hcz97_1 : wc.cell? ⟨gb517, 1, none⟩ = some (.int .u64 x518001_2) := (blk_cell BK517.out 1).trans rfl
                    have hcz97_2 : wc.cell? ⟨gb517, 2, none⟩ = some (u518002) := (blk_cell BK517.out 2).trans rfl
                    have hfz97_0 := blk_frozen BK517.out 0
                    have hfz97_1 := blk_frozen BK517.out 1
                    have hfz97_2 := blk_frozen BK517.out 2
                    obtain ⟨Ao98, co98, eo98⟩ := Kd.R_slice HO_518002.out
                    subst eo98
                    try go_wp2_with (first | ((with_reducible refine gate_callee (f := 23) rfl ?_); refine goesL_ (some 106) rfl rfl Try.func23 (by kernel_rfl) rfl #[.agg #[.int .i64 x518000_2, .int .u64 x518001_2, .slice Ao98 x518002_2.length co98]] rfl (by (try simp only [List.map_toArray, List.map_cons, List.map_nil]); first | done | rfl | (simp only [List.length_drop, List.length_take]; rfl)) ?_; (with_reducible refine (ring_Check.calls kj18 x518000_2 x518001_2 _ _ x518002_2 t518 t519 _ ?side1 ?side2 A86.out).mono ?_); (case side1 => repeat (first | exact (Kd.R_reads' HO_518002.out).2.2 | (with_reducible refine Kd.C_alloc ?_ _) | (with_reducible refine Kd.C_drewN ?_ _) | (with_reducible refine Kd.C_drew ?_))); (case side2 => exact (Kd.R_reads' HO_518002.out).2.1); rintro e w99 ⟨rfl, hb⟩; refine ⟨_, rfl, ?_⟩; have n0_ := Aside0.mk (Kd.R_below (by (with_reducible repeat (first | apply Kd.R_alloc | apply Kd.R_drewN | apply Kd.R_drew)); exact HO_10.out) hb); have n1_ := Aside0.mk (Kd.R_below (by (with_reducible repeat (first | apply Kd.R_alloc | apply Kd.R_drewN | apply Kd.R_drew)); exact HO_518002.out) hb); have n2_ := Aside0.mk (blk_below (g := gb509) (o := .cells #[.int .i64 x510000_2, .int .u64 x510001_2, .slice none 0 0] 25 (0, 0)) (by (with_reducible repeat (first | refine blk_drewN ?_ _ | refine blk_drew ?_ | refine blk_alloc ?_ _)); exact BK509.out) hb); have n3_ := Aside0.mk (blk_below (g := gb517) (o := .cells #[.int .i64 x518000_2, .int .u64 x518001_2, .slice Ao98 x518002_2.length co98] 25 (0, 0)) (by (with_reducible repeat (first | refine blk_drewN ?_ _ | refine blk_drew ?_ | refine blk_alloc ?_ _)); exact BK517.out) hb); have n4_ := Aside0.mk (below_step (by repeat (first | (with_reducible first | exact HB.out | apply below_alloc | apply pw_below_drewN | apply below_drew1 | refine below_set ?_ GE509.out | refine below_set ?_ GE517.out) | exact HB.out)) hb); clear HO_10; clear HO_518002; clear BK509; clear BK517; clear HB; have HO_10 := n0_; have HO_518002 := n1_; have BK509 := n2_; have BK517 := n3_; have HB := n4_; clear n0_ n1_ n2_ n3_ n4_; (try clear hb); (try clear hb2); (try clear hk); (try clear hi)))
                    have n0_ := Aside0.mk (Kd.R_drew HO_10.out)
                    have n1_ := Aside0.mk (Kd.R_drew HO_518002.out)
                    have n2_ := Aside0.mk (blk_drew BK509.out)
                    have n3_ := Aside0.mk (blk_drew BK517.out)
                    have n4_ := Aside0.mk (below_drew1 HB.out)
                    clear HO_10
                    clear HO_518002
                    clear BK509
                    clear BK517
                    clear HB
                    have HO_10 := n0_
                    have HO_518002 := n1_
                    have BK509 := n2_
                    have BK517 := n3_
                    have HB := n4_
                    clear n0_ n1_ n2_ n3_ n4_
                    refine start_ (n := 13) (S := fun w' => w'.cell? ⟨gb517, 0, none⟩ = some (.int .i64 x518000_2) ∧ w'.cell? ⟨gb517, 1, none⟩ = some (.int .u64 x518001_2) ∧ w'.cell? ⟨gb517, 2, none⟩ = some (.slice Ao98 x518002_2.length co98)) (ds := []) #[false, false, false, false, false, false, false, false, false, false, false, false, false] (by kernel_rfl) rfl rfl ⟨(blk_cell BK517.out 0).trans rfl, (blk_cell BK517.out 1).trans rfl, (blk_cell BK517.out 2).trans rfl⟩ (fun hHeld => ?_); refine with_tabW L05_made.tab27 L05_made.bits27 (fun HT_ HW_ => ?_)
                    generalize w99.drew = w100 at HO_10 HO_518002 BK509 BK517 HB hHeld ⊢
                    refine pure_ (i := 1) (N := some 110) (v := ?_) (a' := ?_) #[false, true, false, false, false, false, false, false, false, false, false, false, false] rfl rfl (any_of HT_.out (by kernel_rfl)) (fun _ _ _ h => h) (Or.inl ⟨by rfl, ?_⟩) ?_ ?_
                    rotate_left
                    · intro w'
                      go_simp
                      with_reducible rfl
                    rotate_left
                    · simp only [Act.put, List.setIfInBounds_toArray, List.set_cons_zero, List.set_cons_succ, i64_w, i32_w]
                      rfl
                    refine pure_ (i := 2) (N := some 111) (v := ?_) (a' := ?_) #[false, true, true, false, false, false, false, false, false, false, false, false, false] rfl rfl (any_of HT_.out (by kernel_rfl)) (fun _ _ _ h => h) (Or.inl ⟨by rfl, ?_⟩) ?_ ?_
                    rotate_left
                    · intro w'
                      go_simp
                      with_reducible rfl
                    rotate_left
                    · simp only [Act.put, List.setIfInBounds_toArray, List.set_cons_zero, List.set_cons_succ, i64_w, i32_w]
                      rfl
                    refine pure_ (i := 3) (N := some 112) (v := ?_) (a' := ?_) #[false, true, true, true, false, false, false, false, false, false, false, false, false] rfl rfl (any_of HT_.out (by kernel_rfl)) (fun _ _ _ h => h) (Or.inl ⟨by rfl, ?_⟩) ?_ ?_
                    rotate_left
                    · intro w'
                      go_simp
                      with_reducible rfl
                    rotate_left
                    · simp only [Act.put, List.setIfInBounds_toArray, List.set_cons_zero, List.set_cons_succ, i64_w, i32_w]
                      rfl
                    refine pure_ (i := 4) (N := some 113) (v := ?_) (a' := ?_) #[false, true, true, true, true, false, false, false, false, false, false, false, false] rfl rfl (any_of HT_.out (by kernel_rfl)) (fun _ _ _ h => h) (Or.inl ⟨by rfl, ?_⟩) ?_ ?_
                    rotate_left
                    · intro w'
                      go_simp
                      with_reducible rfl
                    rotate_left
                    · simp only [Act.put, List.setIfInBounds_toArray, List.set_cons_zero, List.set_cons_succ, i64_w, i32_w]
                      rfl
                    refine pure_ (i := 5) (N := some 114) (v := undef) (a' := ?_) #[false, true, true, true, true, true, false, false, false, false, false, false, false] rfl rfl (any_of HT_.out (by kernel_rfl)) (fun _ _ _ h => h) (Or.inr ⟨by rfl, rfl⟩) ?_ ?_
                    rotate_left
                    · simp only [Act.put, List.setIfInBounds_toArray, List.set_cons_zero, List.set_cons_succ, i64_w, i32_w]
                      rfl
                    refine pure_ (i := 6) (N := some 115) (v := undef) (a' := ?_) #[false, true, true, true, true, true, true, false, false, false, false, false, false] rfl rfl (any_of HT_.out (by kernel_rfl)) (fun _ _ _ h => h) (Or.inr ⟨by rfl, rfl⟩) ?_ ?_
                    rotate_left
                    · simp only [Act.put, List.setIfInBounds_toArray, List.set_cons_zero, List.set_cons_succ, i64_w, i32_w]
                      rfl
                    refine pure_ (i := 7) (N := some 116) (v := undef) (a' := ?_) #[false, true, true, true, true, true, true, true, false, false, false, false, false] rfl rfl (any_of HT_.out (by kernel_rfl)) (fun _ _ _ h => h) (Or.inr ⟨by rfl, rfl⟩) ?_ ?_
                    rotate_left
                    · simp only [Act.put, List.setIfInBounds_toArray, List.set_cons_zero, List.set_cons_succ, i64_w, i32_w]
                      rfl
                    refine pure_ (i := 8) (N := some 117) (v := undef) (a' := ?_) #[false, true, true, true, true, true, true, true, true, false, false, false, false] rfl rfl (any_of HT_.out (by kernel_rfl)) (fun _ _ _ h => h) (Or.inr ⟨by rfl, rfl⟩) ?_ ?_
                    rotate_left
                    · simp only [Act.put, List.setIfInBounds_toArray, List.set_cons_zero, List.set_cons_succ, i64_w, i32_w]
                      rfl
                    refine pure_ (i := 9) (N := some 118) (v := ?_) (a' := ?_) #[false, true, true, true, true, true, true, true, true, true, false, false, false] rfl rfl (any_of HT_.out (by kernel_rfl)) (fun _ _ _ h => h) (Or.inl ⟨by rfl, ?_⟩) ?_ ?_
                    rotate_left
                    · intro w'
                      go_simp
                      with_reducible rfl
                    rotate_left
                    · simp only [Act.put, List.setIfInBounds_toArray, List.set_cons_zero, List.set_cons_succ, i64_w, i32_w]
                      rfl
                    refine take_ (i := 0) (N := some 109) (v := ?_) (a' := ?_) #[true, true, true, true, true, true, true, true, true, true, false, false, false] rfl rfl (take_ofW HT_.out HW_.out (by kernel_rfl)) (fun _ _ _ h => h) (Or.inl ⟨by rfl, ?_⟩) hHeld ?_ ?_
                    rotate_left
                    · rintro w' ⟨s0, s1, s2⟩
                      go_simp
                      with_reducible rfl
                    rotate_left
                    · simp only [Act.put, List.setIfInBounds_toArray, List.set_cons_zero, List.set_cons_succ, i64_w, i32_w]
                      rfl
                    refine one_ (i := 10) (N := none) #[true, true, true, true, true, true, true, true, true, true, true, false, false] rfl rfl (one_of HT_.out (by kernel_rfl)) (by decide) (fun K hK => ?_)
                    have hs101 : w100.cell? ⟨gb509, 0, none⟩ = some (.int .i64 x510000_2) := (blk_cell BK509.out 0).trans rfl
                    have hfs101 := blk_frozen BK509.out 0
                    have hns101_1 := NB517_509.out
                    have hms101_1 := NB509_517.out
                    have hs102 : w100.cell? ⟨gb509, 1, none⟩ = some (.int .u64 x510001_2) := (blk_cell BK509.out 1).trans rfl
                    have hfs102 := blk_frozen BK509.out 1
                    have hns102_1 := NB517_509.out
                    have hms102_1 := NB509_517.out
                    have hs103 : w100.cell? ⟨gb509, 2, none⟩ = some (.slice none 0 0) := (blk_cell BK509.out 2).trans rfl
                    have hfs103 := blk_frozen BK509.out 2
                    have hns103_1 := NB517_509.out
                    have hms103_1 := NB509_517.out
                    refine skip_ (w1 := ?_) (by rfl) rfl ?_ ?_
                    rotate_left
                    · go_simp
                      rfl
                    refine hK.out _ _ ⟨((cell_far (p := ⟨gb509, _, none⟩) NB517_509.out _).trans (((cell_far (p := ⟨gb509, _, none⟩) NB517_509.out _).trans (((cell_far (p := ⟨gb509, _, none⟩) NB517_509.out _).trans (hHeld.1)))))), ((cell_far (p := ⟨gb509, _, none⟩) NB517_509.out _).trans (((cell_far (p := ⟨gb509, _, none⟩) NB517_509.out _).trans (((cell_far (p := ⟨gb509, _, none⟩) NB517_509.out _).trans (hHeld.2.1)))))), ((cell_far (p := ⟨gb509, _, none⟩) NB517_509.out _).trans (((cell_far (p := ⟨gb509, _, none⟩) NB517_509.out _).trans (((cell_far (p := ⟨gb509, _, none⟩) NB517_509.out _).trans (hHeld.2.2))))))⟩ (fun hHeld => ?_)
                    clear hK K
                    refine pure_ (i := 11) (N := some 5) (v := ?_) (a' := ?_) #[true, true, true, true, true, true, true, true, true, true, true, true, false] rfl rfl (any_of HT_.out (by kernel_rfl)) (fun _ _ _ h => h) (Or.inl ⟨by rfl, ?_⟩) ?_ ?_
                    rotate_left
                    · intro w'
                      go_simp
                      with_reducible rfl
                    rotate_left
                    · simp only [Act.put, List.setIfInBounds_toArray, List.set_cons_zero, List.set_cons_succ, i64_w, i32_w]
                      rfl
                    refine pure_ (i := 12) (N := some 6) (v := ?_) (a' := ?_) #[true, true, true, true, true, true, true, true, true, true, true, true, true] rfl rfl (any_of HT_.out (by kernel_rfl)) (fun _ _ _ h => h) (Or.inl ⟨by rfl, ?_⟩) ?_ ?_
                    rotate_left
                    · intro w'
                      go_simp
                      with_reducible rfl
                    rotate_left
                    · simp only [Act.put, List.setIfInBounds_toArray, List.set_cons_zero, List.set_cons_succ, i64_w, i32_w]
                      rfl
                    refine done_ (done_of HT_.out (by kernel_rfl)) ?_
                    try go_wp2
                    all_goals refine bodyPost_ret (results_ctt rfl _ _ gb509 25 #[.int .i64 x518000_2, .int .u64 x518001_2, .slice Ao98 x518002_2.length co98] (0, 0) _ rfl (by (with_reducible repeat (first | refine blk_drewN ?_ _ | refine blk_drew ?_ | refine blk_alloc ?_ _)); refine blk_put (cs := #[.int .i64 x518000_2, .int .u64 x518001_2, .slice none 0 0]) ?_ 2 _ rfl; (with_reducible repeat (first | refine blk_drewN ?_ _ | refine blk_drew ?_ | refine blk_alloc ?_ _)); refine blk_put (cs := #[.int .i64 x518000_2, .int .u64 x510001_2, .slice none 0 0]) ?_ 1 _ rfl; (with_reducible repeat (first | refine blk_drewN ?_ _ | refine blk_drew ?_ | refine blk_alloc ?_ _)); refine blk_put (cs := #[.int .i64 x510000_2, .int .u64 x510001_2, .slice none 0 0]) ?_ 0 _ rfl; (with_reducible repeat (first | refine blk_drewN ?_ _ | refine blk_drew ?_ | refine blk_alloc ?_ _)); exact BK509.out) Try.underlying25 rfl (by kernel_rfl)) rfl ?_
                    all_goals exact ⟨_, _, by first | rfl | (simp [errW_none, errW_some] <;> rfl) | (simp [*, errW_none, errW_some] <;> rfl), by (with_reducible repeat (first | apply Kd.R_alloc | apply Kd.R_drewN | apply Kd.R_drew)); exact Kd.R_mono (Kd.R_far (p := ⟨gb509, 2, none⟩) (Kd.R_far (p := ⟨gb509, 1, none⟩) (Kd.R_far (p := ⟨gb509, 0, none⟩) (Kd.R_types HO_518002.out BK509.out (by decide)) (fun _ hk => hk.2) (.int .i64 x518000_2)) (fun _ hk => hk.2) (.int .u64 x518001_2)) (fun _ hk => hk.2) (.slice Ao98 x518002_2.length co98)) (fun _ hk => trivial), by (with_reducible repeat (first | apply Kd.R_alloc | apply Kd.R_drewN | apply Kd.R_drew)); exact Kd.R_mono (Kd.R_far (p := ⟨gb509, 2, none⟩) (Kd.R_far (p := ⟨gb509, 1, none⟩) (Kd.R_far (p := ⟨gb509, 0, none⟩) (Kd.R_types HO_10.out BK509.out (by decide)) (fun _ hk => hk.2) (.int .i64 x518000_2)) (fun _ hk => hk.2) (.int .u64 x518001_2)) (fun _ hk => hk.2) (.slice Ao98 x518002_2.length co98)) (fun _ hk => trivial), by repeat (first | (with_reducible first | exact HB.out | apply below_alloc | apply pw_below_drewN | apply below_drew1 | refine below_set ?_ GE509.out | refine below_set ?_ GE517.out) | exact HB.out)⟩


end Go.Proofs.Ytoekmdcldfmmcaa.F
end
