/- Part 2 of A28: what the functions reckon, step by step, and plain laws. No condition. -/
import Derived.Test.YtmfbpkjhabdcgaaKA28x1
section
-- Written by fork.py (this session's program over the kit's print.py). Not trusted: Lean checks it.
namespace Go.Proofs.Ytmfbpkjhabdcgaa.F
open Go.RowKit Go.Proofs.YtmfbpkjhabdcgaaW.PrintWords Go.Proofs.YtmfbpkjhabdcgaaW.PrintLast Go.Proofs.YtmfbpkjhabdcgaaW.PrintMore
attribute [local go_sem] max2_int min2_int max_two min_two max_three min_three max_four min_four
set_option linter.unusedVariables false
set_option linter.unusedSimpArgs false

/-! ### L28_made: function 54 -/
mutual
def L28_made.l0 : Nat → List Int → Int → Int → Int → Int → Int → List (S29) → Option (Int × (List (S29)) × Int × Int × Int × Int × Int × Int × Int × Int × Int × (List (S29)))
  | 0, _, _, _, _, _, _, _ => none
  | k + 1, x0, x1, x2, x9, x10, x715000, x715001 => if x10 < (x0.length : Int) then (L28_made.j1 k x0 x1 x2 x9 x10 (decide (x10 < 20)) x715000 x715001) else (L28_made.j1 k x0 x1 x2 x9 x10 false x715000 x715001)
def L28_made.j1 : Nat → List Int → Int → Int → Int → Int → Bool → Int → List (S29) → Option (Int × (List (S29)) × Int × Int × Int × Int × Int × Int × Int × Int × Int × (List (S29)))
  | 0, _, _, _, _, _, _, _, _ => none
  | k + 1, x0, x1, x2, x9, x10, x25, x715000, x715001 => if x25 = true then (if 0 ≤ x10 then (if x10 < (x0.length : Int) then ((K_Mod.f (rd x0 x10) 16777216).bind fun t718 => (if (Int.tmod (wrap64 (Int.tdiv t718 128)) 3) = 0 then (L28_made.j2 k x0 x1 x2 (wrap64 (x9 + (Int.tmod t718 4))) x10 x715000 x715001 3 (Int.tmod (wrap64 (Int.tdiv t718 16)) 8) (wrap64 (1 + (Int.tmod (wrap64 (Int.tdiv t718 512)) 3))) (wrap64 (x9 + (Int.tmod t718 4)))) else (L28_made.j2 k x0 x1 x2 (wrap64 (x9 + (Int.tmod t718 4))) x10 x715000 x715001 (wrap64 (1 + (Int.tmod (wrap64 (Int.tdiv t718 4)) 2))) (Int.tmod (wrap64 (Int.tdiv t718 16)) 8) 0 (wrap64 (x9 + (Int.tmod t718 4)))))) else (none)) else (none)) else ((K_Mod.f x1 1048576).bind fun t715 => ((K_Mod.f x2 40).bind fun t716 => (some (x715000, x715001, wrap64 (1 + (Int.tmod t715 3)), Int.tmod (wrap64 (Int.tdiv t715 3)) 4, Int.tmod (wrap64 (Int.tdiv t715 12)) 16, wrap64 (x9 + t716), wrap64 (1 + (Int.tmod (wrap64 (Int.tdiv t715 192)) 40)), 0, 500, Int.tmod (wrap64 (Int.tdiv t715 8192)) 8, 2, ([] : List (S29))))))
def L28_made.j2 : Nat → List Int → Int → Int → Int → Int → Int → List (S29) → Int → Int → Int → Int → Option (Int × (List (S29)) × Int × Int × Int × Int × Int × Int × Int × Int × Int × (List (S29)))
  | 0, _, _, _, _, _, _, _, _, _, _, _ => none
  | k + 1, x0, x1, x2, x9, x10, x715000, x715001, x720000, x720001, x720002, x720003 => L28_made.l1 k x0 x1 x2 x9 x10 false 0 x715000 x715001 x720000 x720001 x720002 x720003
def L28_made.l1 : Nat → List Int → Int → Int → Int → Int → Bool → Int → Int → List (S29) → Int → Int → Int → Int → Option (Int × (List (S29)) × Int × Int × Int × Int × Int × Int × Int × Int × Int × (List (S29)))
  | 0, _, _, _, _, _, _, _, _, _, _, _, _, _ => none
  | k + 1, x0, x1, x2, x9, x10, x13, x14, x715000, x715001, x720000, x720001, x720002, x720003 => if x14 < (x715001.length : Int) then (if 0 ≤ x14 then (if x13 = true then (L28_made.l1 k x0 x1 x2 x9 x10 true (wrap64 (x14 + 1)) x715000 x715001 x720000 x720001 x720002 x720003) else (if ((rd_T29 x715001 x14).f0) = x720000 then (if ((rd_T29 x715001 x14).f1) = x720001 then (L28_made.l1 k x0 x1 x2 x9 x10 (((rd_T29 x715001 x14).f2) == x720002) (wrap64 (x14 + 1)) x715000 x715001 x720000 x720001 x720002 x720003) else (L28_made.l1 k x0 x1 x2 x9 x10 false (wrap64 (x14 + 1)) x715000 x715001 x720000 x720001 x720002 x720003)) else (L28_made.l1 k x0 x1 x2 x9 x10 false (wrap64 (x14 + 1)) x715000 x715001 x720000 x720001 x720002 x720003))) else (none)) else (if x13 = true then (L28_made.l0 k x0 x1 x2 x9 (wrap64 (x10 + 1)) x715000 x715001) else (if x715001.length < 4398046511104 then (L28_made.l0 k x0 x1 x2 x9 (wrap64 (x10 + 1)) x715000 (x715001 ++ [(⟨x720000, x720001, x720002, x720003⟩ : S29)])) else (none)))
end
def L28_made.f (k : Nat) (l0 : List Int) (a1 : Int) (a2 : Int) : Option (Int × (List (S29)) × Int × Int × Int × Int × Int × Int × Int × Int × Int × (List (S29))) := L28_made.l0 k l0 a1 a2 0 0 20 ([] : List (S29))
theorem L28_made.mono_l : ∀ k, (∀ y0 y1 y2 y3 y4 y5 y6, LeO (L28_made.l0 k y0 y1 y2 y3 y4 y5 y6) (L28_made.l0 (k + 1) y0 y1 y2 y3 y4 y5 y6)) ∧ (∀ y0 y1 y2 y3 y4 y5 y6 y7, LeO (L28_made.j1 k y0 y1 y2 y3 y4 y5 y6 y7) (L28_made.j1 (k + 1) y0 y1 y2 y3 y4 y5 y6 y7)) ∧ (∀ y0 y1 y2 y3 y4 y5 y6 y7 y8 y9 y10, LeO (L28_made.j2 k y0 y1 y2 y3 y4 y5 y6 y7 y8 y9 y10) (L28_made.j2 (k + 1) y0 y1 y2 y3 y4 y5 y6 y7 y8 y9 y10)) ∧ (∀ y0 y1 y2 y3 y4 y5 y6 y7 y8 y9 y10 y11 y12, LeO (L28_made.l1 k y0 y1 y2 y3 y4 y5 y6 y7 y8 y9 y10 y11 y12) (L28_made.l1 (k + 1) y0 y1 y2 y3 y4 y5 y6 y7 y8 y9 y10 y11 y12))
  | 0 => ⟨fun _ _ _ _ _ _ _ r h => by simp [L28_made.l0] at h, fun _ _ _ _ _ _ _ _ r h => by simp [L28_made.j1] at h, fun _ _ _ _ _ _ _ _ _ _ _ r h => by simp [L28_made.j2] at h, fun _ _ _ _ _ _ _ _ _ _ _ _ _ r h => by simp [L28_made.l1] at h⟩
  | k + 1 => by
    obtain ⟨ih0, ih1, ih2, ih3⟩ := L28_made.mono_l k
    refine ⟨?_, ?_, ?_, ?_⟩
    · intro y0 y1 y2 y3 y4 y5 y6
      unfold L28_made.l0
      repeat' first
      | (with_reducible exact ih0 _ _ _ _ _ _ _)
      | (with_reducible exact ih1 _ _ _ _ _ _ _ _)
      | (with_reducible exact ih2 _ _ _ _ _ _ _ _ _ _ _)
      | (with_reducible exact ih3 _ _ _ _ _ _ _ _ _ _ _ _ _)
      | (with_reducible exact LeO.refl _)
      | (with_reducible exact LeO.none _)
      | (with_reducible refine LeO.ite ?_ ?_)
      | (with_reducible refine LeO.bind ?_ (fun _ => ?_))
      | exact ih0 _ _ _ _ _ _ _
      | exact ih1 _ _ _ _ _ _ _ _
      | exact ih2 _ _ _ _ _ _ _ _ _ _ _
      | exact ih3 _ _ _ _ _ _ _ _ _ _ _ _ _
      | exact LeO.none _
      | refine LeO.ite ?_ ?_
      | refine LeO.bind ?_ (fun _ => ?_)
    · intro y0 y1 y2 y3 y4 y5 y6 y7
      unfold L28_made.j1
      repeat' first
      | (with_reducible exact ih0 _ _ _ _ _ _ _)
      | (with_reducible exact ih1 _ _ _ _ _ _ _ _)
      | (with_reducible exact ih2 _ _ _ _ _ _ _ _ _ _ _)
      | (with_reducible exact ih3 _ _ _ _ _ _ _ _ _ _ _ _ _)
      | (with_reducible exact LeO.refl _)
      | (with_reducible exact LeO.none _)
      | (with_reducible refine LeO.ite ?_ ?_)
      | (with_reducible refine LeO.bind ?_ (fun _ => ?_))
      | exact ih0 _ _ _ _ _ _ _
      | exact ih1 _ _ _ _ _ _ _ _
      | exact ih2 _ _ _ _ _ _ _ _ _ _ _
      | exact ih3 _ _ _ _ _ _ _ _ _ _ _ _ _
      | exact LeO.none _
      | refine LeO.ite ?_ ?_
      | refine LeO.bind ?_ (fun _ => ?_)
    · intro y0 y1 y2 y3 y4 y5 y6 y7 y8 y9 y10
      unfold L28_made.j2
      repeat' first
      | (with_reducible exact ih0 _ _ _ _ _ _ _)
      | (with_reducible exact ih1 _ _ _ _ _ _ _ _)
      | (with_reducible exact ih2 _ _ _ _ _ _ _ _ _ _ _)
      | (with_reducible exact ih3 _ _ _ _ _ _ _ _ _ _ _ _ _)
      | (with_reducible exact LeO.refl _)
      | (with_reducible exact LeO.none _)
      | (with_reducible refine LeO.ite ?_ ?_)
      | (with_reducible refine LeO.bind ?_ (fun _ => ?_))
      | exact ih0 _ _ _ _ _ _ _
      | exact ih1 _ _ _ _ _ _ _ _
      | exact ih2 _ _ _ _ _ _ _ _ _ _ _
      | exact ih3 _ _ _ _ _ _ _ _ _ _ _ _ _
      | exact LeO.none _
      | refine LeO.ite ?_ ?_
      | refine LeO.bind ?_ (fun _ => ?_)
    · intro y0 y1 y2 y3 y4 y5 y6 y7 y8 y9 y10 y11 y12
      unfold L28_made.l1
      repeat' first
      | (with_reducible exact ih0 _ _ _ _ _ _ _)
      | (with_reducible exact ih1 _ _ _ _ _ _ _ _)
      | (with_reducible exact ih2 _ _ _ _ _ _ _ _ _ _ _)
      | (with_reducible exact ih3 _ _ _ _ _ _ _ _ _ _ _ _ _)
      | (with_reducible exact LeO.refl _)
      | (with_reducible exact LeO.none _)
      | (with_reducible refine LeO.ite ?_ ?_)
      | (with_reducible refine LeO.bind ?_ (fun _ => ?_))
      | exact ih0 _ _ _ _ _ _ _
      | exact ih1 _ _ _ _ _ _ _ _
      | exact ih2 _ _ _ _ _ _ _ _ _ _ _
      | exact ih3 _ _ _ _ _ _ _ _ _ _ _ _ _
      | exact LeO.none _
      | refine LeO.ite ?_ ?_
      | refine LeO.bind ?_ (fun _ => ?_)
theorem L28_made.mono : ∀ a0 a1 a2 k, LeO (L28_made.f k a0 a1 a2) (L28_made.f (k + 1) a0 a1 a2) := by
  intro a0 a1 a2 k
  obtain ⟨ih0, ih1, ih2, ih3⟩ := L28_made.mono_l k
  unfold L28_made.f
  repeat' first
      | (with_reducible exact ih0 _ _ _ _ _ _ _)
      | (with_reducible exact ih1 _ _ _ _ _ _ _ _)
      | (with_reducible exact ih2 _ _ _ _ _ _ _ _ _ _ _)
      | (with_reducible exact ih3 _ _ _ _ _ _ _ _ _ _ _ _ _)
      | (with_reducible exact LeO.refl _)
      | (with_reducible exact LeO.none _)
      | (with_reducible refine LeO.ite ?_ ?_)
      | (with_reducible refine LeO.bind ?_ (fun _ => ?_))
      | exact ih0 _ _ _ _ _ _ _
      | exact ih1 _ _ _ _ _ _ _ _
      | exact ih2 _ _ _ _ _ _ _ _ _ _ _
      | exact ih3 _ _ _ _ _ _ _ _ _ _ _ _ _
      | exact LeO.none _
      | refine LeO.ite ?_ ?_
      | refine LeO.bind ?_ (fun _ => ?_)
def L28_made.T20 : Bool × List (List Nat × List Nat) := (true, [([], []), ([], []), ([1], [1]), ([2], [2]), ([], []), ([4], [4]), ([5], [5]), ([], []), ([7], [7]), ([8], [8]), ([], []), ([], []), ([11], [11]), ([10, 12], [10, 12]), ([], []), ([14], [14]), ([15], [15]), ([16], [16]), ([], []), ([18], [18]), ([19], [19]), ([3, 6, 9, 13, 17, 20], [3, 6, 9, 13, 17, 20]), ([0, 12, 0], [0]), ([21, 22, 0, 1, 2, 3, 4, 5, 6, 7, 8, 9, 10, 11, 12, 13, 14, 15, 16, 17, 18, 19, 20, 21, 22], [21])])
def L28_made.B20 : List Nat := [0, 0, 2, 6, 0, 16, 48, 0, 128, 384, 0, 0, 2048, 7168, 0, 16384, 49152, 114688, 0, 262144, 786432, 2097150, 6145, 8388607]
theorem L28_made.tab20 : rtab .any (opsOf Try.f54 20) = L28_made.T20 := by kernel_rfl
theorem L28_made.bits20 : waitsOk L28_made.T20.2 L28_made.B20 = true := by kernel_rfl
set_option maxHeartbeats 8000000 in
set_option maxRecDepth 100000 in
theorem L28_made.calls (k : Nat) (A0 : Option Addr) (c0 : Nat) (l0 : List Int) (a1 : Int) (a2 : Int) (r1 : Int) (r2 : List (S29)) (r3 : Int) (r4 : Int) (r5 : Int) (r6 : Int) (r7 : Int) (r8 : Int) (r9 : Int) (r10 : Int) (r11 : Int) (r12 : List (S29)) (w : World) (hr0 : Kd.C (Kd.int .i64) w A0 l0.length l0) (hc0 : l0.length ≤ c0) (h : L28_made.f k l0 a1 a2 = some (r1, r2, r3, r4, r5, r6, r7, r8, r9, r10, r11, r12)) :
    Calls Try.prog 54 #[.slice A0 l0.length c0, .int .i64 a1, .int .i64 a2] w fun e w' => ∃ v1_ v11_ : Value, e = .returned (.tuple #[.agg #[.int .i64 r1, v1_], .agg #[.int .i64 r3, .int .i64 r4, .int .i64 r5, .int .i64 r6, .int .i64 r7, .int .i64 r8, .int .i64 r9, .int .i64 r10, .int .i64 r11, v11_]]) ∧ Kd.R k29 29 w' w.heap.size (fun k_ => some k_ ≠ (v11_ : Value).ownBlock) v1_ r2 ∧ Kd.R k29 29 w' w.heap.size (fun k_ => some k_ ≠ (v1_ : Value).ownBlock) v11_ r12 ∧ Below w.heap.size w w' := by
  have hu25 := Try.underlying25
  have hu60 := Try.underlying60
  have hu29 := Try.underlying29
  have HR0 := Aside0.mk hr0
  have HC0 := Aside0.mk hc0
  clear hr0 hc0
  have HB := Aside0.mk (Below.refl w.heap.size w)
  have H : (L28_made.l0 k l0 a1 a2 0 0 20 ([] : List (S29))) = some (r1, r2, r3, r4, r5, r6, r7, r8, r9, r10, r11, r12) := h
  clear h
  have H' := Aside0.mk H
  clear H
  go_enter Try.func54, Try.ntmps54
  go_wp2_with (first | ((with_reducible refine gate_dst (N := 6) rfl ?_); refine box_event ?hg (N := 6) ?hd (cs := #[.int .i64 0, .slice none 0 0]) (t := 25) ?hr ?_; (case hd => rfl); (case hg => rfl); (case hr => first | (go_simp; done) | (go_simp; rfl)); intro gb712 hg w4 hbox hb; have n0_ := Aside0.mk (below_step (by repeat (first | (with_reducible first | exact HB.out | apply below_alloc | apply pw_below_drewN | apply below_drew1) | exact HB.out)) hb); have n1_ := Aside0.mk (hbox); have n2_ := Aside0.mk ((by rw [hg]; exact (below_size (by repeat (first | (with_reducible first | exact HB.out | apply below_alloc | apply pw_below_drewN | apply below_drew1) | exact HB.out))) : w.heap.size ≤ gb712)); have n3_ := Aside0.mk ((by rw [hg]; exact (below_size (by repeat (first | (with_reducible first | exact HB.out | apply below_alloc | apply pw_below_drewN | apply below_drew1) | exact HB.out))) : w.heap.size ≤ gb712)); clear HB; have HB := n0_; have BK712 := n1_; have GW712 := n2_; have GE712 := n3_; clear n0_ n1_ n2_ n3_; clear hb hbox hg) | ((with_reducible refine gate_dst (N := 7) rfl ?_); refine box_event ?hg (N := 7) ?hd (cs := #[.int .i64 0, .int .i64 0, .int .i64 0, .int .i64 0, .int .i64 0, .int .i64 0, .int .i64 0, .int .i64 0, .int .i64 0, .slice none 0 0]) (t := 60) ?hr ?_; (case hd => rfl); (case hg => rfl); (case hr => first | (go_simp; done) | (go_simp; rfl)); intro gb713 hg w5 hbox hb; have n0_ := Aside0.mk (blk_below (g := gb712) (o := .cells #[.int .i64 0, .slice none 0 0] 25 (0, 0)) (by (with_reducible repeat (first | refine blk_drewN ?_ _ | refine blk_drew ?_ | refine blk_alloc ?_ _)); exact BK712.out) hb); have n1_ := Aside0.mk (below_step (by repeat (first | (with_reducible first | exact HB.out | apply below_alloc | apply pw_below_drewN | apply below_drew1 | refine below_set ?_ GE712.out) | exact HB.out)) hb); have n2_ := Aside0.mk (hbox); have n3_ := Aside0.mk ((by rw [hg]; exact (below_size (by repeat (first | (with_reducible first | exact HB.out | apply below_alloc | apply pw_below_drewN | apply below_drew1 | refine below_set ?_ GE712.out) | exact HB.out))) : w.heap.size ≤ gb713)); have n4_ := Aside0.mk ((by rw [hg]; exact (below_size (by repeat (first | (with_reducible first | exact HB.out | apply below_alloc | apply pw_below_drewN | apply below_drew1 | refine below_set ?_ GE712.out) | exact HB.out))) : w.heap.size ≤ gb713)); have n5_ := Aside0.mk ((by rw [hg]; exact Nat.ne_of_lt (blk_lt (g := gb712) (o := .cells #[.int .i64 0, .slice none 0 0] 25 (0, 0)) (by (with_reducible repeat (first | refine blk_drewN ?_ _ | refine blk_drew ?_ | refine blk_alloc ?_ _)); exact BK712.out)) : gb712 ≠ gb713)); have n6_ := Aside0.mk ((by rw [hg]; exact Nat.ne_of_gt (blk_lt (g := gb712) (o := .cells #[.int .i64 0, .slice none 0 0] 25 (0, 0)) (by (with_reducible repeat (first | refine blk_drewN ?_ _ | refine blk_drew ?_ | refine blk_alloc ?_ _)); exact BK712.out)) : gb713 ≠ gb712)); clear BK712; clear HB; have BK712 := n0_; have HB := n1_; have BK713 := n2_; have GW713 := n3_; have GE713 := n4_; have NB712_713 := n5_; have NB713_712 := n6_; clear n0_ n1_ n2_ n3_ n4_ n5_ n6_; clear hb hbox hg) | ((with_reducible refine gate_dst (N := 8) rfl ?_); refine box_event ?hg (N := 8) ?hd (cs := #[.int .i64 0, .slice none 0 0]) (t := 25) ?hr ?_; (case hd => rfl); (case hg => rfl); (case hr => first | (go_simp; done) | (go_simp; rfl)); intro gb714 hg w6 hbox hb; have n0_ := Aside0.mk (blk_below (g := gb712) (o := .cells #[.int .i64 0, .slice none 0 0] 25 (0, 0)) (by (with_reducible repeat (first | refine blk_drewN ?_ _ | refine blk_drew ?_ | refine blk_alloc ?_ _)); exact BK712.out) hb); have n1_ := Aside0.mk (blk_below (g := gb713) (o := .cells #[.int .i64 0, .int .i64 0, .int .i64 0, .int .i64 0, .int .i64 0, .int .i64 0, .int .i64 0, .int .i64 0, .int .i64 0, .slice none 0 0] 60 (0, 0)) (by (with_reducible repeat (first | refine blk_drewN ?_ _ | refine blk_drew ?_ | refine blk_alloc ?_ _)); exact BK713.out) hb); have n2_ := Aside0.mk (below_step (by repeat (first | (with_reducible first | exact HB.out | apply below_alloc | apply pw_below_drewN | apply below_drew1 | refine below_set ?_ GE712.out | refine below_set ?_ GE713.out) | exact HB.out)) hb); have n3_ := Aside0.mk (hbox); have n4_ := Aside0.mk ((by rw [hg]; exact (below_size (by repeat (first | (with_reducible first | exact HB.out | apply below_alloc | apply pw_below_drewN | apply below_drew1 | refine below_set ?_ GE712.out | refine below_set ?_ GE713.out) | exact HB.out))) : w.heap.size ≤ gb714)); have n5_ := Aside0.mk ((by rw [hg]; exact (below_size (by repeat (first | (with_reducible first | exact HB.out | apply below_alloc | apply pw_below_drewN | apply below_drew1 | refine below_set ?_ GE712.out | refine below_set ?_ GE713.out) | exact HB.out))) : w.heap.size ≤ gb714)); have n6_ := Aside0.mk ((by rw [hg]; exact Nat.ne_of_lt (blk_lt (g := gb712) (o := .cells #[.int .i64 0, .slice none 0 0] 25 (0, 0)) (by (with_reducible repeat (first | refine blk_drewN ?_ _ | refine blk_drew ?_ | refine blk_alloc ?_ _)); exact BK712.out)) : gb712 ≠ gb714)); have n7_ := Aside0.mk ((by rw [hg]; exact Nat.ne_of_gt (blk_lt (g := gb712) (o := .cells #[.int .i64 0, .slice none 0 0] 25 (0, 0)) (by (with_reducible repeat (first | refine blk_drewN ?_ _ | refine blk_drew ?_ | refine blk_alloc ?_ _)); exact BK712.out)) : gb714 ≠ gb712)); have n8_ := Aside0.mk ((by rw [hg]; exact Nat.ne_of_lt (blk_lt (g := gb713) (o := .cells #[.int .i64 0, .int .i64 0, .int .i64 0, .int .i64 0, .int .i64 0, .int .i64 0, .int .i64 0, .int .i64 0, .int .i64 0, .slice none 0 0] 60 (0, 0)) (by (with_reducible repeat (first | refine blk_drewN ?_ _ | refine blk_drew ?_ | refine blk_alloc ?_ _)); exact BK713.out)) : gb713 ≠ gb714)); have n9_ := Aside0.mk ((by rw [hg]; exact Nat.ne_of_gt (blk_lt (g := gb713) (o := .cells #[.int .i64 0, .int .i64 0, .int .i64 0, .int .i64 0, .int .i64 0, .int .i64 0, .int .i64 0, .int .i64 0, .int .i64 0, .slice none 0 0] 60 (0, 0)) (by (with_reducible repeat (first | refine blk_drewN ?_ _ | refine blk_drew ?_ | refine blk_alloc ?_ _)); exact BK713.out)) : gb714 ≠ gb713)); clear BK712; clear BK713; clear HB; have BK712 := n0_; have BK713 := n1_; have HB := n2_; have BK714 := n3_; have GW714 := n4_; have GE714 := n5_; have NB712_714 := n6_; have NB714_712 := n7_; have NB713_714 := n8_; have NB714_713 := n9_; clear n0_ n1_ n2_ n3_ n4_ n5_ n6_ n7_ n8_ n9_; clear hb hbox hg; have hnb7 := NB714_712.out; have hnc7 := NB712_714.out; have hnb8 := NB714_713.out; have hnc8 := NB713_714.out; have hcz9_0 : w6.cell? ⟨gb714, 0, none⟩ = some (.int .i64 0) := (blk_cell BK714.out 0).trans rfl; have hcz9_1 : w6.cell? ⟨gb714, 1, none⟩ = some (.slice none 0 0) := (blk_cell BK714.out 1).trans rfl; have hfz9_0 := blk_frozen BK714.out 0; have hfz9_1 := blk_frozen BK714.out 1))
  go_loopg [9, 10] k (fun kq v9 v10 w' => ∃ (x9_1 : Int) (x10_1 : Int) (x715001_1 : List (S29)) (u715001 : Value), v9 = .int .i64 x9_1 ∧ v10 = .int .i64 x10_1 ∧ Aside0 (L28_made.l0 kq l0 a1 a2 x9_1 x10_1 20 x715001_1 = some (r1, r2, r3, r4, r5, r6, r7, r8, r9, r10, r11, r12)) ∧ Aside0 (kq ≤ k) ∧ Aside0 (Kd.R k29 29 w' w.heap.size (fun _ => True) u715001 x715001_1) ∧ Aside0 (w'.heap[gb712]? = some (.cells #[.int .i64 0, (.slice none 0 0)] 25 (0, 0))) ∧ Aside0 (w'.heap[gb713]? = some (.cells #[.int .i64 0, .int .i64 0, .int .i64 0, .int .i64 0, .int .i64 0, .int .i64 0, .int .i64 0, .int .i64 0, .int .i64 0, (.slice none 0 0)] 60 (0, 0))) ∧ Aside0 (w'.heap[gb714]? = some (.cells #[.int .i64 20, u715001] 25 (0, 0))) ∧ Aside0 (Below w.heap.size w w'))
  case atStart => exact ⟨(0), (0), (([] : List (S29))), (.slice none 0 0), (by first | rfl | (simp; done) | (simp [*]; done)), (by first | rfl | (simp; done) | (simp [*]; done)), H', ⟨Nat.le_refl _⟩, ⟨by first | exact Kd.R_nil _ _ _ _ _ | exact Kd.N_nil _ _ _ _ _ | exact Kd.V_nil _ _ _ _ _ | exact Kd.Q_nil _ _ _ _ _ | exact Kd.S_nil _ _ _ _ _⟩, ⟨by (with_reducible repeat (first | refine blk_drewN ?_ _ | refine blk_drew ?_ | refine blk_alloc ?_ _)); refine blk_far ?_ NB712_714.out _; (with_reducible repeat (first | refine blk_drewN ?_ _ | refine blk_drew ?_ | refine blk_alloc ?_ _)); refine blk_far ?_ NB712_714.out _; (with_reducible repeat (first | refine blk_drewN ?_ _ | refine blk_drew ?_ | refine blk_alloc ?_ _)); exact BK712.out⟩, ⟨by (with_reducible repeat (first | refine blk_drewN ?_ _ | refine blk_drew ?_ | refine blk_alloc ?_ _)); refine blk_far ?_ NB713_714.out _; (with_reducible repeat (first | refine blk_drewN ?_ _ | refine blk_drew ?_ | refine blk_alloc ?_ _)); refine blk_far ?_ NB713_714.out _; (with_reducible repeat (first | refine blk_drewN ?_ _ | refine blk_drew ?_ | refine blk_alloc ?_ _)); exact BK713.out⟩, ⟨by (with_reducible repeat (first | refine blk_drewN ?_ _ | refine blk_drew ?_ | refine blk_alloc ?_ _)); refine blk_put (cs := #[.int .i64 20, .slice none 0 0]) ?_ 1 _ rfl; (with_reducible repeat (first | refine blk_drewN ?_ _ | refine blk_drew ?_ | refine blk_alloc ?_ _)); refine blk_put (cs := #[.int .i64 0, .slice none 0 0]) ?_ 0 _ rfl; (with_reducible repeat (first | refine blk_drewN ?_ _ | refine blk_drew ?_ | refine blk_alloc ?_ _)); exact BK714.out⟩, ⟨by repeat (first | (with_reducible first | exact HB.out | apply below_alloc | apply pw_below_drewN | apply below_drew1 | refine below_set ?_ GE712.out | refine below_set ?_ GE713.out | refine below_set ?_ GE714.out) | exact HB.out)⟩⟩
  case round =>
    clear H'
    try clear p2
    try clear c5
    try clear c7
    try clear c8
    try clear hcz9_0
    try clear hcz9_1
    try clear hfz9_0
    try clear hfz9_1
    obtain ⟨x9_1, x10_1, x715001_1, u715001, rfl, rfl, HA, HK1, HO_715001, BK712, BK713, BK714, HB⟩ := hrel
    cases gk with
    | zero => exact absurd HA.out (by simp [L28_made.l0])
    | succ k1 =>
      have H := HA.out
      clear HA
      simp only [L28_made.l0] at H
      have HC10 := Aside0.mk H
      clear H
      go_upto_region 4 with (fail)
      go_cut [25] (fun v25 wc => ∃ (kq : Nat) (x25_9 : Bool), v25 = .bool x25_9 ∧ Aside0 (L28_made.j1 kq l0 a1 a2 x9_1 x10_1 x25_9 20 x715001_1 = some (r1, r2, r3, r4, r5, r6, r7, r8, r9, r10, r11, r12)) ∧ Aside0 (kq ≤ k1) ∧ Aside0 (Kd.R k29 29 wc w.heap.size (fun _ => True) u715001 x715001_1) ∧ Aside0 (wc.heap[gb712]? = some (.cells #[.int .i64 0, (.slice none 0 0)] 25 (0, 0))) ∧ Aside0 (wc.heap[gb713]? = some (.cells #[.int .i64 0, .int .i64 0, .int .i64 0, .int .i64 0, .int .i64 0, .int .i64 0, .int .i64 0, .int .i64 0, .int .i64 0, (.slice none 0 0)] 60 (0, 0))) ∧ Aside0 (wc.heap[gb714]? = some (.cells #[.int .i64 20, u715001] 25 (0, 0))) ∧ Aside0 (Below w.heap.size w wc))
      case first =>
        have H := HC10.out
        clear HC10
        by_cases c11 : x10_1 < (l0.length : Int)
        · rw [if_pos c11] at H
          have c11b0 : decide (x10_1 < (l0.length : Int)) = true := decide_eq_true c11
          clear c11
          (first | rw [c11b0] | (simp only [i64_w, i32_w]; rw [c11b0]) | skip)
          have H' := Aside0.mk H
          clear H
          go_wp2
          go_meet
          case rel => exact ⟨_, (decide (x10_1 < 20)), (by first | rfl | (simp; done) | (simp [*]; done)), H', ⟨by have := HK1.out; first | omega | exact Nat.le_refl _⟩, ⟨by (with_reducible repeat (first | apply Kd.R_alloc | apply Kd.R_drewN | apply Kd.R_drew)); exact HO_715001.out⟩, ⟨by (with_reducible repeat (first | refine blk_drewN ?_ _ | refine blk_drew ?_ | refine blk_alloc ?_ _)); exact BK712.out⟩, ⟨by (with_reducible repeat (first | refine blk_drewN ?_ _ | refine blk_drew ?_ | refine blk_alloc ?_ _)); exact BK713.out⟩, ⟨by (with_reducible repeat (first | refine blk_drewN ?_ _ | refine blk_drew ?_ | refine blk_alloc ?_ _)); exact BK714.out⟩, ⟨by repeat (first | (with_reducible first | exact HB.out | apply below_alloc | apply pw_below_drewN | apply below_drew1 | refine below_set ?_ GE712.out | refine below_set ?_ GE713.out | refine below_set ?_ GE714.out) | exact HB.out)⟩⟩
        · rw [if_neg c11] at H
          have c11b0 : decide (x10_1 < (l0.length : Int)) = false := decide_eq_false c11
          clear c11
          (first | rw [c11b0] | (simp only [i64_w, i32_w]; rw [c11b0]) | skip)
          have H' := Aside0.mk H
          clear H
          go_wp2
          go_meet
          case rel => exact ⟨_, (false), (by first | rfl | (simp; done) | (simp [*]; done)), H', ⟨by have := HK1.out; first | omega | exact Nat.le_refl _⟩, ⟨by (with_reducible repeat (first | apply Kd.R_alloc | apply Kd.R_drewN | apply Kd.R_drew)); exact HO_715001.out⟩, ⟨by (with_reducible repeat (first | refine blk_drewN ?_ _ | refine blk_drew ?_ | refine blk_alloc ?_ _)); exact BK712.out⟩, ⟨by (with_reducible repeat (first | refine blk_drewN ?_ _ | refine blk_drew ?_ | refine blk_alloc ?_ _)); exact BK713.out⟩, ⟨by (with_reducible repeat (first | refine blk_drewN ?_ _ | refine blk_drew ?_ | refine blk_alloc ?_ _)); exact BK714.out⟩, ⟨by repeat (first | (with_reducible first | exact HB.out | apply below_alloc | apply pw_below_drewN | apply below_drew1 | refine below_set ?_ GE712.out | refine below_set ?_ GE713.out | refine below_set ?_ GE714.out) | exact HB.out)⟩⟩
      case rest =>
        clear HC10
        try clear c1
        try clear p2
        try clear c5
        try clear c7
        try clear c8
        try clear c11
        try clear c11b0
        try clear hcz9_0
        try clear hcz9_1
        try clear hfz9_0
        try clear hfz9_1
        try clear p2
        obtain ⟨kq, x25_9, rfl, HA, HJ9, HO_715001, BK712, BK713, BK714, HB⟩ := hcut
        cases kq with
        | zero => exact absurd HA.out (by simp [L28_made.j1])
        | succ kj9 =>
          have H := HA.out
          clear HA
          simp only [L28_made.j1] at H
          by_cases c12 : x25_9 = true
          · subst c12
            have H1 : (if 0 ≤ x10_1 then (if x10_1 < (l0.length : Int) then ((K_Mod.f (rd l0 x10_1) 16777216).bind fun t718 => (if (Int.tmod (wrap64 (Int.tdiv t718 128)) 3) = 0 then (L28_made.j2 kj9 l0 a1 a2 (wrap64 (x9_1 + (Int.tmod t718 4))) x10_1 20 x715001_1 3 (Int.tmod (wrap64 (Int.tdiv t718 16)) 8) (wrap64 (1 + (Int.tmod (wrap64 (Int.tdiv t718 512)) 3))) (wrap64 (x9_1 + (Int.tmod t718 4)))) else (L28_made.j2 kj9 l0 a1 a2 (wrap64 (x9_1 + (Int.tmod t718 4))) x10_1 20 x715001_1 (wrap64 (1 + (Int.tmod (wrap64 (Int.tdiv t718 4)) 2))) (Int.tmod (wrap64 (Int.tdiv t718 16)) 8) 0 (wrap64 (x9_1 + (Int.tmod t718 4)))))) else (none)) else (none)) = some (r1, r2, r3, r4, r5, r6, r7, r8, r9, r10, r11, r12) := by rw [if_pos rfl] at H; exact H
            clear H
            have H := H1
            clear H1
            by_cases c13 : 0 ≤ x10_1
            rotate_left
            · rw [if_neg c13] at H
              exact absurd H (by simp)
            rw [if_pos c13] at H
            have c13b0 : decide (0 ≤ x10_1) = true := decide_eq_true c13
            clear c13
            by_cases c14 : x10_1 < (l0.length : Int)
            rotate_left
            · rw [if_neg c14] at H
              exact absurd H (by simp)
            rw [if_pos c14] at H
            have c14b0 : decide (x10_1 < (l0.length : Int)) = true := decide_eq_true c14
            clear c14
            replace H := Option.bind_eq_some_iff.mp H
            obtain ⟨t718, A150, H⟩ := H
            replace H : (if (Int.tmod (wrap64 (Int.tdiv t718 128)) 3) = 0 then (L28_made.j2 kj9 l0 a1 a2 (wrap64 (x9_1 + (Int.tmod t718 4))) x10_1 20 x715001_1 3 (Int.tmod (wrap64 (Int.tdiv t718 16)) 8) (wrap64 (1 + (Int.tmod (wrap64 (Int.tdiv t718 512)) 3))) (wrap64 (x9_1 + (Int.tmod t718 4)))) else (L28_made.j2 kj9 l0 a1 a2 (wrap64 (x9_1 + (Int.tmod t718 4))) x10_1 20 x715001_1 (wrap64 (1 + (Int.tmod (wrap64 (Int.tdiv t718 4)) 2))) (Int.tmod (wrap64 (Int.tdiv t718 16)) 8) 0 (wrap64 (x9_1 + (Int.tmod t718 4))))) = some (r1, r2, r3, r4, r5, r6, r7, r8, r9, r10, r11, r12) := H
            have A15 := Aside0.mk A150
            clear A150
            have HC16 := Aside0.mk H
            clear H
            have p717 : 0 ≤ (x10_1 : Int) := of_decide_eq_true (by first | (with_reducible assumption) | assumption)
            have q717 : x10_1 < (l0.length : Int) := of_decide_eq_true (by first | (with_reducible assumption) | assumption)
            obtain ⟨ad717, e717, hx717_0⟩ := Kd.at_int HR0.out x10_1 p717 q717
            cases e717
            replace hx717_0 := (HB.out.cell (World.block_lt_of_cell? w _ hx717_0)).trans hx717_0
            replace p717 := eq_true p717
            replace q717 := eq_true q717
            go_upto_if 49 with (first | ((with_reducible refine gate_callee (f := 31) rfl ?_); refine goesL_ (some 32) rfl rfl Try.func31 (by kernel_rfl) rfl #[.int .i64 (rd l0 x10_1), .int .i64 16777216] rfl (by (try simp only [List.map_toArray, List.map_cons, List.map_nil]); first | done | rfl | (simp only [List.length_drop, List.length_take]; rfl)) ?_; (with_reducible refine (K_Mod.calls (rd l0 x10_1) 16777216 t718 _ A15.out).mono ?_); rintro e w' ⟨rfl, ⟨nd, rfl⟩⟩; refine ⟨_, rfl, ?_⟩; (try (rw [drewN_self wc]; generalize hq_ : World.drewN wc _ = wc; have n0_ : Aside0 (Kd.R k29 29 wc w.heap.size (fun _ => True) u715001 x715001_1) := ⟨by rw [← hq_]; exact (by (with_reducible repeat (first | apply Kd.R_alloc | apply Kd.R_drewN | apply Kd.R_drew)); exact HO_715001.out)⟩; have n1_ : Aside0 (wc.heap[gb712]? = some (.cells #[.int .i64 0, .slice none 0 0] 25 (0, 0))) := ⟨by rw [← hq_]; exact (by (with_reducible repeat (first | refine blk_drewN ?_ _ | refine blk_drew ?_ | refine blk_alloc ?_ _)); exact BK712.out)⟩; have n2_ : Aside0 (wc.heap[gb713]? = some (.cells #[.int .i64 0, .int .i64 0, .int .i64 0, .int .i64 0, .int .i64 0, .int .i64 0, .int .i64 0, .int .i64 0, .int .i64 0, .slice none 0 0] 60 (0, 0))) := ⟨by rw [← hq_]; exact (by (with_reducible repeat (first | refine blk_drewN ?_ _ | refine blk_drew ?_ | refine blk_alloc ?_ _)); exact BK713.out)⟩; have n3_ : Aside0 (wc.heap[gb714]? = some (.cells #[.int .i64 20, u715001] 25 (0, 0))) := ⟨by rw [← hq_]; exact (by (with_reducible repeat (first | refine blk_drewN ?_ _ | refine blk_drew ?_ | refine blk_alloc ?_ _)); exact BK714.out)⟩; have n4_ : Aside0 (Below w.heap.size w wc) := ⟨by rw [← hq_]; exact (by repeat (first | (with_reducible first | exact HB.out | apply below_alloc | apply pw_below_drewN | apply below_drew1 | refine below_set ?_ GE712.out | refine below_set ?_ GE713.out | refine below_set ?_ GE714.out) | exact HB.out))⟩; clear HO_715001 BK712 BK713 BK714 HB hq_; have HO_715001 := n0_; have BK712 := n1_; have BK713 := n2_; have BK714 := n3_; have HB := n4_; clear n0_ n1_ n2_ n3_ n4_))) | ((with_reducible refine gate_dst (N := 12) rfl ?_); refine box_event ?hg (N := 12) ?hd (cs := #[.int .i64 0, .int .i64 0, .int .i64 0, .int .i64 0]) (t := 29) ?hr ?_; (case hd => rfl); (case hg => rfl); (case hr => first | (go_simp; done) | (go_simp; rfl)); intro gb719 hg w17 hbox hb; have n0_ := Aside0.mk (Kd.R_below (Kd.R_elderB (by (with_reducible repeat (first | apply Kd.R_alloc | apply Kd.R_drewN | apply Kd.R_drew)); exact HO_715001.out) gb719 (Nat.le_of_eq hg.symm)) hb); have n1_ := Aside0.mk (blk_below (g := gb712) (o := .cells #[.int .i64 0, .slice none 0 0] 25 (0, 0)) (by (with_reducible repeat (first | refine blk_drewN ?_ _ | refine blk_drew ?_ | refine blk_alloc ?_ _)); exact BK712.out) hb); have n2_ := Aside0.mk (blk_below (g := gb713) (o := .cells #[.int .i64 0, .int .i64 0, .int .i64 0, .int .i64 0, .int .i64 0, .int .i64 0, .int .i64 0, .int .i64 0, .int .i64 0, .slice none 0 0] 60 (0, 0)) (by (with_reducible repeat (first | refine blk_drewN ?_ _ | refine blk_drew ?_ | refine blk_alloc ?_ _)); exact BK713.out) hb); have n3_ := Aside0.mk (blk_below (g := gb714) (o := .cells #[.int .i64 20, u715001] 25 (0, 0)) (by (with_reducible repeat (first | refine blk_drewN ?_ _ | refine blk_drew ?_ | refine blk_alloc ?_ _)); exact BK714.out) hb); have n4_ := Aside0.mk (below_step (by repeat (first | (with_reducible first | exact HB.out | apply below_alloc | apply pw_below_drewN | apply below_drew1 | refine below_set ?_ GE712.out | refine below_set ?_ GE713.out | refine below_set ?_ GE714.out) | exact HB.out)) hb); have n5_ := Aside0.mk (hbox); have n6_ := Aside0.mk ((by rw [hg]; exact (below_size (by repeat (first | (with_reducible first | exact HB.out | apply below_alloc | apply pw_below_drewN | apply below_drew1 | refine below_set ?_ GE712.out | refine below_set ?_ GE713.out | refine below_set ?_ GE714.out) | exact HB.out))) : w.heap.size ≤ gb719)); have n7_ := Aside0.mk ((by rw [hg]; exact (below_size (by repeat (first | (with_reducible first | exact HB.out | apply below_alloc | apply pw_below_drewN | apply below_drew1 | refine below_set ?_ GE712.out | refine below_set ?_ GE713.out | refine below_set ?_ GE714.out) | exact HB.out))) : w.heap.size ≤ gb719)); have n8_ := Aside0.mk ((by rw [hg]; exact Nat.ne_of_lt (blk_lt (g := gb712) (o := .cells #[.int .i64 0, .slice none 0 0] 25 (0, 0)) (by (with_reducible repeat (first | refine blk_drewN ?_ _ | refine blk_drew ?_ | refine blk_alloc ?_ _)); exact BK712.out)) : gb712 ≠ gb719)); have n9_ := Aside0.mk ((by rw [hg]; exact Nat.ne_of_gt (blk_lt (g := gb712) (o := .cells #[.int .i64 0, .slice none 0 0] 25 (0, 0)) (by (with_reducible repeat (first | refine blk_drewN ?_ _ | refine blk_drew ?_ | refine blk_alloc ?_ _)); exact BK712.out)) : gb719 ≠ gb712)); have n10_ := Aside0.mk ((by rw [hg]; exact Nat.ne_of_lt (blk_lt (g := gb713) (o := .cells #[.int .i64 0, .int .i64 0, .int .i64 0, .int .i64 0, .int .i64 0, .int .i64 0, .int .i64 0, .int .i64 0, .int .i64 0, .slice none 0 0] 60 (0, 0)) (by (with_reducible repeat (first | refine blk_drewN ?_ _ | refine blk_drew ?_ | refine blk_alloc ?_ _)); exact BK713.out)) : gb713 ≠ gb719)); have n11_ := Aside0.mk ((by rw [hg]; exact Nat.ne_of_gt (blk_lt (g := gb713) (o := .cells #[.int .i64 0, .int .i64 0, .int .i64 0, .int .i64 0, .int .i64 0, .int .i64 0, .int .i64 0, .int .i64 0, .int .i64 0, .slice none 0 0] 60 (0, 0)) (by (with_reducible repeat (first | refine blk_drewN ?_ _ | refine blk_drew ?_ | refine blk_alloc ?_ _)); exact BK713.out)) : gb719 ≠ gb713)); have n12_ := Aside0.mk ((by rw [hg]; exact Nat.ne_of_lt (blk_lt (g := gb714) (o := .cells #[.int .i64 20, u715001] 25 (0, 0)) (by (with_reducible repeat (first | refine blk_drewN ?_ _ | refine blk_drew ?_ | refine blk_alloc ?_ _)); exact BK714.out)) : gb714 ≠ gb719)); have n13_ := Aside0.mk ((by rw [hg]; exact Nat.ne_of_gt (blk_lt (g := gb714) (o := .cells #[.int .i64 20, u715001] 25 (0, 0)) (by (with_reducible repeat (first | refine blk_drewN ?_ _ | refine blk_drew ?_ | refine blk_alloc ?_ _)); exact BK714.out)) : gb719 ≠ gb714)); clear HO_715001; clear BK712; clear BK713; clear BK714; clear HB; have HO_715001 := n0_; have BK712 := n1_; have BK713 := n2_; have BK714 := n3_; have HB := n4_; have BK719 := n5_; have GW719 := n6_; have GE719 := n7_; have NB712_719 := n8_; have NB719_712 := n9_; have NB713_719 := n10_; have NB719_713 := n11_; have NB714_719 := n12_; have NB719_714 := n13_; clear n0_ n1_ n2_ n3_ n4_ n5_ n6_ n7_ n8_ n9_ n10_ n11_ n12_ n13_; clear hb hbox hg; have hnb18 := NB719_712.out; have hnc18 := NB712_719.out; have hnb19 := NB719_713.out; have hnc19 := NB713_719.out; have hnb20 := NB719_714.out; have hnc20 := NB714_719.out; have hcz21_0 : w17.cell? ⟨gb719, 0, none⟩ = some (.int .i64 0) := (blk_cell BK719.out 0).trans rfl; have hcz21_1 : w17.cell? ⟨gb719, 1, none⟩ = some (.int .i64 0) := (blk_cell BK719.out 1).trans rfl; have hcz21_2 : w17.cell? ⟨gb719, 2, none⟩ = some (.int .i64 0) := (blk_cell BK719.out 2).trans rfl; have hcz21_3 : w17.cell? ⟨gb719, 3, none⟩ = some (.int .i64 0) := (blk_cell BK719.out 3).trans rfl; have hfz21_0 := blk_frozen BK719.out 0; have hfz21_1 := blk_frozen BK719.out 1; have hfz21_2 := blk_frozen BK719.out 2; have hfz21_3 := blk_frozen BK719.out 3))
            (try simp only [Act.put, List.setIfInBounds_toArray, List.set_cons_zero, List.set_cons_succ])
            go_cut [] (fun wc => ∃ (kq : Nat) (x720000_15 : Int) (x720001_15 : Int) (x720002_15 : Int) (x720003_15 : Int), Aside0 (L28_made.j2 kq l0 a1 a2 (wrap64 (x9_1 + (Int.tmod t718 4))) x10_1 20 x715001_1 x720000_15 x720001_15 x720002_15 x720003_15 = some (r1, r2, r3, r4, r5, r6, r7, r8, r9, r10, r11, r12)) ∧ Aside0 (kq ≤ kj9) ∧ Aside0 (Kd.R k29 29 wc w.heap.size (fun k_ => k_ ≠ gb719) u715001 x715001_1) ∧ Aside0 (wc.heap[gb712]? = some (.cells #[.int .i64 0, (.slice none 0 0)] 25 (0, 0))) ∧ Aside0 (wc.heap[gb713]? = some (.cells #[.int .i64 0, .int .i64 0, .int .i64 0, .int .i64 0, .int .i64 0, .int .i64 0, .int .i64 0, .int .i64 0, .int .i64 0, (.slice none 0 0)] 60 (0, 0))) ∧ Aside0 (wc.heap[gb714]? = some (.cells #[.int .i64 20, u715001] 25 (0, 0))) ∧ Aside0 (wc.heap[gb719]? = some (.cells #[.int .i64 x720000_15, .int .i64 x720001_15, .int .i64 x720002_15, .int .i64 x720003_15] 29 (0, 0))) ∧ Aside0 (Below w.heap.size w wc))
            case first =>
              have H := HC16.out
              clear HC16
              by_cases c22 : (Int.tmod (wrap64 (Int.tdiv t718 128)) 3) = 0
              · rw [if_pos c22] at H
                have c22b0 : ((Int.tmod (wrap64 (Int.tdiv t718 128)) 3) == 0) = true := beq_iff_eq.mpr c22
                have c22b1 : ((Int.tmod (wrap64 (Int.tdiv t718 128)) 3) != 0) = false := bne_eq_false_iff_eq.mpr c22
                clear c22
                (first | rw [c22b0] | (simp only [i64_w, i32_w]; rw [c22b0]) | skip)
                have H' := Aside0.mk H
                clear H
                have hnb23 := NB719_712.out
                have hnc23 := NB712_719.out
                have hnb24 := NB719_713.out
                have hnc24 := NB713_719.out
                have hnb25 := NB719_714.out
                have hnc25 := NB714_719.out
                have hcz26_0 : w17.cell? ⟨gb719, 0, none⟩ = some (.int .i64 0) := (blk_cell BK719.out 0).trans rfl
                have hcz26_1 : w17.cell? ⟨gb719, 1, none⟩ = some (.int .i64 0) := (blk_cell BK719.out 1).trans rfl
                have hcz26_2 : w17.cell? ⟨gb719, 2, none⟩ = some (.int .i64 0) := (blk_cell BK719.out 2).trans rfl
                have hcz26_3 : w17.cell? ⟨gb719, 3, none⟩ = some (.int .i64 0) := (blk_cell BK719.out 3).trans rfl
                have hfz26_0 := blk_frozen BK719.out 0
                have hfz26_1 := blk_frozen BK719.out 1
                have hfz26_2 := blk_frozen BK719.out 2
                have hfz26_3 := blk_frozen BK719.out 3
                go_wp2
                go_meet
                case rel => exact ⟨_, (3), (Int.tmod (wrap64 (Int.tdiv t718 16)) 8), (wrap64 (1 + (Int.tmod (wrap64 (Int.tdiv t718 512)) 3))), (wrap64 (x9_1 + (Int.tmod t718 4))), H', ⟨by have := HK1.out; have := HJ9.out; first | omega | exact Nat.le_refl _⟩, ⟨by (with_reducible repeat (first | apply Kd.R_alloc | apply Kd.R_drewN | apply Kd.R_drew)); exact Kd.R_mono (Kd.R_far (p := ⟨gb719, 3, none⟩) (Kd.R_far (p := ⟨gb719, 2, none⟩) (Kd.R_far (p := ⟨gb719, 1, none⟩) (Kd.R_far (p := ⟨gb719, 0, none⟩) (Kd.R_far (p := ⟨gb719, 3, none⟩) (Kd.R_far (p := ⟨gb719, 2, none⟩) (Kd.R_far (p := ⟨gb719, 1, none⟩) (Kd.R_far (p := ⟨gb719, 0, none⟩) (Kd.R_mono HO_715001.out (fun k_ hk => (⟨hk, hk.2⟩ : _ ∧ k_ ≠ gb719))) (fun _ hk => hk.2) (.int .i64 (wrap64 (1 + (Int.tmod (wrap64 (Int.tdiv t718 4)) 2))))) (fun _ hk => hk.2) (.int .i64 (Int.tmod (wrap64 (Int.tdiv t718 16)) 8))) (fun _ hk => hk.2) (.int .i64 0)) (fun _ hk => hk.2) (.int .i64 (wrap64 (x9_1 + (Int.tmod t718 4))))) (fun _ hk => hk.2) (.int .i64 3)) (fun _ hk => hk.2) (.int .i64 (Int.tmod (wrap64 (Int.tdiv t718 16)) 8))) (fun _ hk => hk.2) (.int .i64 (wrap64 (1 + (Int.tmod (wrap64 (Int.tdiv t718 512)) 3))))) (fun _ hk => hk.2) (.int .i64 (wrap64 (x9_1 + (Int.tmod t718 4))))) (fun _ hk => hk.1.2)⟩, ⟨by (with_reducible repeat (first | refine blk_drewN ?_ _ | refine blk_drew ?_ | refine blk_alloc ?_ _)); refine blk_far ?_ NB712_719.out _; (with_reducible repeat (first | refine blk_drewN ?_ _ | refine blk_drew ?_ | refine blk_alloc ?_ _)); refine blk_far ?_ NB712_719.out _; (with_reducible repeat (first | refine blk_drewN ?_ _ | refine blk_drew ?_ | refine blk_alloc ?_ _)); refine blk_far ?_ NB712_719.out _; (with_reducible repeat (first | refine blk_drewN ?_ _ | refine blk_drew ?_ | refine blk_alloc ?_ _)); refine blk_far ?_ NB712_719.out _; (with_reducible repeat (first | refine blk_drewN ?_ _ | refine blk_drew ?_ | refine blk_alloc ?_ _)); refine blk_far ?_ NB712_719.out _; (with_reducible repeat (first | refine blk_drewN ?_ _ | refine blk_drew ?_ | refine blk_alloc ?_ _)); refine blk_far ?_ NB712_719.out _; (with_reducible repeat (first | refine blk_drewN ?_ _ | refine blk_drew ?_ | refine blk_alloc ?_ _)); refine blk_far ?_ NB712_719.out _; (with_reducible repeat (first | refine blk_drewN ?_ _ | refine blk_drew ?_ | refine blk_alloc ?_ _)); refine blk_far ?_ NB712_719.out _; (with_reducible repeat (first | refine blk_drewN ?_ _ | refine blk_drew ?_ | refine blk_alloc ?_ _)); exact BK712.out⟩, ⟨by (with_reducible repeat (first | refine blk_drewN ?_ _ | refine blk_drew ?_ | refine blk_alloc ?_ _)); refine blk_far ?_ NB713_719.out _; (with_reducible repeat (first | refine blk_drewN ?_ _ | refine blk_drew ?_ | refine blk_alloc ?_ _)); refine blk_far ?_ NB713_719.out _; (with_reducible repeat (first | refine blk_drewN ?_ _ | refine blk_drew ?_ | refine blk_alloc ?_ _)); refine blk_far ?_ NB713_719.out _; (with_reducible repeat (first | refine blk_drewN ?_ _ | refine blk_drew ?_ | refine blk_alloc ?_ _)); refine blk_far ?_ NB713_719.out _; (with_reducible repeat (first | refine blk_drewN ?_ _ | refine blk_drew ?_ | refine blk_alloc ?_ _)); refine blk_far ?_ NB713_719.out _; (with_reducible repeat (first | refine blk_drewN ?_ _ | refine blk_drew ?_ | refine blk_alloc ?_ _)); refine blk_far ?_ NB713_719.out _; (with_reducible repeat (first | refine blk_drewN ?_ _ | refine blk_drew ?_ | refine blk_alloc ?_ _)); refine blk_far ?_ NB713_719.out _; (with_reducible repeat (first | refine blk_drewN ?_ _ | refine blk_drew ?_ | refine blk_alloc ?_ _)); refine blk_far ?_ NB713_719.out _; (with_reducible repeat (first | refine blk_drewN ?_ _ | refine blk_drew ?_ | refine blk_alloc ?_ _)); exact BK713.out⟩, ⟨by (with_reducible repeat (first | refine blk_drewN ?_ _ | refine blk_drew ?_ | refine blk_alloc ?_ _)); refine blk_far ?_ NB714_719.out _; (with_reducible repeat (first | refine blk_drewN ?_ _ | refine blk_drew ?_ | refine blk_alloc ?_ _)); refine blk_far ?_ NB714_719.out _; (with_reducible repeat (first | refine blk_drewN ?_ _ | refine blk_drew ?_ | refine blk_alloc ?_ _)); refine blk_far ?_ NB714_719.out _; (with_reducible repeat (first | refine blk_drewN ?_ _ | refine blk_drew ?_ | refine blk_alloc ?_ _)); refine blk_far ?_ NB714_719.out _; (with_reducible repeat (first | refine blk_drewN ?_ _ | refine blk_drew ?_ | refine blk_alloc ?_ _)); refine blk_far ?_ NB714_719.out _; (with_reducible repeat (first | refine blk_drewN ?_ _ | refine blk_drew ?_ | refine blk_alloc ?_ _)); refine blk_far ?_ NB714_719.out _; (with_reducible repeat (first | refine blk_drewN ?_ _ | refine blk_drew ?_ | refine blk_alloc ?_ _)); refine blk_far ?_ NB714_719.out _; (with_reducible repeat (first | refine blk_drewN ?_ _ | refine blk_drew ?_ | refine blk_alloc ?_ _)); refine blk_far ?_ NB714_719.out _; (with_reducible repeat (first | refine blk_drewN ?_ _ | refine blk_drew ?_ | refine blk_alloc ?_ _)); exact BK714.out⟩, ⟨by (with_reducible repeat (first | refine blk_drewN ?_ _ | refine blk_drew ?_ | refine blk_alloc ?_ _)); refine blk_put (cs := #[.int .i64 3, .int .i64 (Int.tmod (wrap64 (Int.tdiv t718 16)) 8), .int .i64 (wrap64 (1 + (Int.tmod (wrap64 (Int.tdiv t718 512)) 3))), .int .i64 (wrap64 (x9_1 + (Int.tmod t718 4)))]) ?_ 3 _ rfl; (with_reducible repeat (first | refine blk_drewN ?_ _ | refine blk_drew ?_ | refine blk_alloc ?_ _)); refine blk_put (cs := #[.int .i64 3, .int .i64 (Int.tmod (wrap64 (Int.tdiv t718 16)) 8), .int .i64 0, .int .i64 (wrap64 (x9_1 + (Int.tmod t718 4)))]) ?_ 2 _ rfl; (with_reducible repeat (first | refine blk_drewN ?_ _ | refine blk_drew ?_ | refine blk_alloc ?_ _)); refine blk_put (cs := #[.int .i64 3, .int .i64 (Int.tmod (wrap64 (Int.tdiv t718 16)) 8), .int .i64 0, .int .i64 (wrap64 (x9_1 + (Int.tmod t718 4)))]) ?_ 1 _ rfl; (with_reducible repeat (first | refine blk_drewN ?_ _ | refine blk_drew ?_ | refine blk_alloc ?_ _)); refine blk_put (cs := #[.int .i64 (wrap64 (1 + (Int.tmod (wrap64 (Int.tdiv t718 4)) 2))), .int .i64 (Int.tmod (wrap64 (Int.tdiv t718 16)) 8), .int .i64 0, .int .i64 (wrap64 (x9_1 + (Int.tmod t718 4)))]) ?_ 0 _ rfl; (with_reducible repeat (first | refine blk_drewN ?_ _ | refine blk_drew ?_ | refine blk_alloc ?_ _)); refine blk_put (cs := #[.int .i64 (wrap64 (1 + (Int.tmod (wrap64 (Int.tdiv t718 4)) 2))), .int .i64 (Int.tmod (wrap64 (Int.tdiv t718 16)) 8), .int .i64 0, .int .i64 0]) ?_ 3 _ rfl; (with_reducible repeat (first | refine blk_drewN ?_ _ | refine blk_drew ?_ | refine blk_alloc ?_ _)); refine blk_put (cs := #[.int .i64 (wrap64 (1 + (Int.tmod (wrap64 (Int.tdiv t718 4)) 2))), .int .i64 (Int.tmod (wrap64 (Int.tdiv t718 16)) 8), .int .i64 0, .int .i64 0]) ?_ 2 _ rfl; (with_reducible repeat (first | refine blk_drewN ?_ _ | refine blk_drew ?_ | refine blk_alloc ?_ _)); refine blk_put (cs := #[.int .i64 (wrap64 (1 + (Int.tmod (wrap64 (Int.tdiv t718 4)) 2))), .int .i64 0, .int .i64 0, .int .i64 0]) ?_ 1 _ rfl; (with_reducible repeat (first | refine blk_drewN ?_ _ | refine blk_drew ?_ | refine blk_alloc ?_ _)); refine blk_put (cs := #[.int .i64 0, .int .i64 0, .int .i64 0, .int .i64 0]) ?_ 0 _ rfl; (with_reducible repeat (first | refine blk_drewN ?_ _ | refine blk_drew ?_ | refine blk_alloc ?_ _)); exact BK719.out⟩, ⟨by repeat (first | (with_reducible first | exact HB.out | apply below_alloc | apply pw_below_drewN | apply below_drew1 | refine below_set ?_ GE712.out | refine below_set ?_ GE713.out | refine below_set ?_ GE714.out | refine below_set ?_ GE719.out) | exact HB.out)⟩⟩
              · rw [if_neg c22] at H
                have c22b0 : ((Int.tmod (wrap64 (Int.tdiv t718 128)) 3) == 0) = false := beq_eq_false_iff_ne.mpr c22
                have c22b1 : ((Int.tmod (wrap64 (Int.tdiv t718 128)) 3) != 0) = true := bne_iff_ne.mpr c22
                (first | rw [c22b0] | (simp only [i64_w, i32_w]; rw [c22b0]) | skip)
                have H' := Aside0.mk H
                clear H
                go_wp2
                go_meet
                case rel => exact ⟨_, (wrap64 (1 + (Int.tmod (wrap64 (Int.tdiv t718 4)) 2))), (Int.tmod (wrap64 (Int.tdiv t718 16)) 8), (0), (wrap64 (x9_1 + (Int.tmod t718 4))), H', ⟨by have := HK1.out; have := HJ9.out; first | omega | exact Nat.le_refl _⟩, ⟨by (with_reducible repeat (first | apply Kd.R_alloc | apply Kd.R_drewN | apply Kd.R_drew)); exact Kd.R_mono (Kd.R_far (p := ⟨gb719, 3, none⟩) (Kd.R_far (p := ⟨gb719, 2, none⟩) (Kd.R_far (p := ⟨gb719, 1, none⟩) (Kd.R_far (p := ⟨gb719, 0, none⟩) (Kd.R_mono HO_715001.out (fun k_ hk => (⟨hk, hk.2⟩ : _ ∧ k_ ≠ gb719))) (fun _ hk => hk.2) (.int .i64 (wrap64 (1 + (Int.tmod (wrap64 (Int.tdiv t718 4)) 2))))) (fun _ hk => hk.2) (.int .i64 (Int.tmod (wrap64 (Int.tdiv t718 16)) 8))) (fun _ hk => hk.2) (.int .i64 0)) (fun _ hk => hk.2) (.int .i64 (wrap64 (x9_1 + (Int.tmod t718 4))))) (fun _ hk => hk.1.2)⟩, ⟨by (with_reducible repeat (first | refine blk_drewN ?_ _ | refine blk_drew ?_ | refine blk_alloc ?_ _)); refine blk_far ?_ NB712_719.out _; (with_reducible repeat (first | refine blk_drewN ?_ _ | refine blk_drew ?_ | refine blk_alloc ?_ _)); refine blk_far ?_ NB712_719.out _; (with_reducible repeat (first | refine blk_drewN ?_ _ | refine blk_drew ?_ | refine blk_alloc ?_ _)); refine blk_far ?_ NB712_719.out _; (with_reducible repeat (first | refine blk_drewN ?_ _ | refine blk_drew ?_ | refine blk_alloc ?_ _)); refine blk_far ?_ NB712_719.out _; (with_reducible repeat (first | refine blk_drewN ?_ _ | refine blk_drew ?_ | refine blk_alloc ?_ _)); exact BK712.out⟩, ⟨by (with_reducible repeat (first | refine blk_drewN ?_ _ | refine blk_drew ?_ | refine blk_alloc ?_ _)); refine blk_far ?_ NB713_719.out _; (with_reducible repeat (first | refine blk_drewN ?_ _ | refine blk_drew ?_ | refine blk_alloc ?_ _)); refine blk_far ?_ NB713_719.out _; (with_reducible repeat (first | refine blk_drewN ?_ _ | refine blk_drew ?_ | refine blk_alloc ?_ _)); refine blk_far ?_ NB713_719.out _; (with_reducible repeat (first | refine blk_drewN ?_ _ | refine blk_drew ?_ | refine blk_alloc ?_ _)); refine blk_far ?_ NB713_719.out _; (with_reducible repeat (first | refine blk_drewN ?_ _ | refine blk_drew ?_ | refine blk_alloc ?_ _)); exact BK713.out⟩, ⟨by (with_reducible repeat (first | refine blk_drewN ?_ _ | refine blk_drew ?_ | refine blk_alloc ?_ _)); refine blk_far ?_ NB714_719.out _; (with_reducible repeat (first | refine blk_drewN ?_ _ | refine blk_drew ?_ | refine blk_alloc ?_ _)); refine blk_far ?_ NB714_719.out _; (with_reducible repeat (first | refine blk_drewN ?_ _ | refine blk_drew ?_ | refine blk_alloc ?_ _)); refine blk_far ?_ NB714_719.out _; (with_reducible repeat (first | refine blk_drewN ?_ _ | refine blk_drew ?_ | refine blk_alloc ?_ _)); refine blk_far ?_ NB714_719.out _; (with_reducible repeat (first | refine blk_drewN ?_ _ | refine blk_drew ?_ | refine blk_alloc ?_ _)); exact BK714.out⟩, ⟨by (with_reducible repeat (first | refine blk_drewN ?_ _ | refine blk_drew ?_ | refine blk_alloc ?_ _)); refine blk_put (cs := #[.int .i64 (wrap64 (1 + (Int.tmod (wrap64 (Int.tdiv t718 4)) 2))), .int .i64 (Int.tmod (wrap64 (Int.tdiv t718 16)) 8), .int .i64 0, .int .i64 0]) ?_ 3 _ rfl; (with_reducible repeat (first | refine blk_drewN ?_ _ | refine blk_drew ?_ | refine blk_alloc ?_ _)); refine blk_put (cs := #[.int .i64 (wrap64 (1 + (Int.tmod (wrap64 (Int.tdiv t718 4)) 2))), .int .i64 (Int.tmod (wrap64 (Int.tdiv t718 16)) 8), .int .i64 0, .int .i64 0]) ?_ 2 _ rfl; (with_reducible repeat (first | refine blk_drewN ?_ _ | refine blk_drew ?_ | refine blk_alloc ?_ _)); refine blk_put (cs := #[.int .i64 (wrap64 (1 + (Int.tmod (wrap64 (Int.tdiv t718 4)) 2))), .int .i64 0, .int .i64 0, .int .i64 0]) ?_ 1 _ rfl; (with_reducible repeat (first | refine blk_drewN ?_ _ | refine blk_drew ?_ | refine blk_alloc ?_ _)); refine blk_put (cs := #[.int .i64 0, .int .i64 0, .int .i64 0, .int .i64 0]) ?_ 0 _ rfl; (with_reducible repeat (first | refine blk_drewN ?_ _ | refine blk_drew ?_ | refine blk_alloc ?_ _)); exact BK719.out⟩, ⟨by repeat (first | (with_reducible first | exact HB.out | apply below_alloc | apply pw_below_drewN | apply below_drew1 | refine below_set ?_ GE712.out | refine below_set ?_ GE713.out | refine below_set ?_ GE714.out | refine below_set ?_ GE719.out) | exact HB.out)⟩⟩
            case rest =>
              clear HC16
              try clear c1
              try clear c2
              try clear p2
              try clear c3
              try clear c5
              try clear p6
              try clear c7
              try clear p7
              try clear q7
              try clear hx7
              try clear c8
              try clear c11
              try clear c11b0
              try clear c12
              try clear c13
              try clear c13b0
              try clear c14
              try clear c14b0
              try clear c18
              try clear c19
              try clear c20
              try clear c22
              try clear c22b0
              try clear c22b1
              try clear c23
              try clear c24
              try clear c25
              try clear hcz21_0
              try clear hcz21_1
              try clear hcz21_2
              try clear hcz21_3
              try clear hcz26_0
              try clear hcz26_1
              try clear hcz26_2
              try clear hcz26_3
              try clear hcz9_0
              try clear hcz9_1
              try clear hfz21_0
              try clear hfz21_1
              try clear hfz21_2
              try clear hfz21_3
              try clear hfz26_0
              try clear hfz26_1
              try clear hfz26_2
              try clear hfz26_3
              try clear hfz9_0
              try clear hfz9_1
              try clear hx717_0
              try clear p2
              try clear p717
              try clear q717
              obtain ⟨kq, x720000_15, x720001_15, x720002_15, x720003_15, HA, HJ15, HO_715001, BK712, BK713, BK714, BK719, HB⟩ := hcut
              cases kq with
              | zero => exact absurd HA.out (by simp [L28_made.j2])
              | succ kj15 =>
                have H := HA.out
                clear HA
                simp only [L28_made.j2] at H
                have H' := Aside0.mk H
                clear H
                go_wp2
                go_loopg [13, 14] kj15 (fun kq v13 v14 w' => ∃ (x13_4 : Bool) (x14_4 : Int), v13 = .bool x13_4 ∧ v14 = .int .i64 x14_4 ∧ Aside0 (L28_made.l1 kq l0 a1 a2 (wrap64 (x9_1 + (Int.tmod t718 4))) x10_1 x13_4 x14_4 20 x715001_1 x720000_15 x720001_15 x720002_15 x720003_15 = some (r1, r2, r3, r4, r5, r6, r7, r8, r9, r10, r11, r12)) ∧ Aside0 (kq ≤ kj15) ∧ Aside0 (Kd.R k29 29 w' w.heap.size (fun k_ => k_ ≠ gb719) u715001 x715001_1) ∧ Aside0 (w'.heap[gb712]? = some (.cells #[.int .i64 0, (.slice none 0 0)] 25 (0, 0))) ∧ Aside0 (w'.heap[gb713]? = some (.cells #[.int .i64 0, .int .i64 0, .int .i64 0, .int .i64 0, .int .i64 0, .int .i64 0, .int .i64 0, .int .i64 0, .int .i64 0, (.slice none 0 0)] 60 (0, 0))) ∧ Aside0 (w'.heap[gb714]? = some (.cells #[.int .i64 20, u715001] 25 (0, 0))) ∧ Aside0 (w'.heap[gb719]? = some (.cells #[.int .i64 x720000_15, .int .i64 x720001_15, .int .i64 x720002_15, .int .i64 x720003_15] 29 (0, 0))) ∧ Aside0 (Below w.heap.size w w'))
                case atStart => exact ⟨(false), (0), (by first | rfl | (simp; done) | (simp [*]; done)), (by first | rfl | (simp; done) | (simp [*]; done)), H', ⟨Nat.le_refl _⟩, ⟨by (with_reducible repeat (first | apply Kd.R_alloc | apply Kd.R_drewN | apply Kd.R_drew)); exact HO_715001.out⟩, ⟨by (with_reducible repeat (first | refine blk_drewN ?_ _ | refine blk_drew ?_ | refine blk_alloc ?_ _)); exact BK712.out⟩, ⟨by (with_reducible repeat (first | refine blk_drewN ?_ _ | refine blk_drew ?_ | refine blk_alloc ?_ _)); exact BK713.out⟩, ⟨by (with_reducible repeat (first | refine blk_drewN ?_ _ | refine blk_drew ?_ | refine blk_alloc ?_ _)); exact BK714.out⟩, ⟨by (with_reducible repeat (first | refine blk_drewN ?_ _ | refine blk_drew ?_ | refine blk_alloc ?_ _)); exact BK719.out⟩, ⟨by repeat (first | (with_reducible first | exact HB.out | apply below_alloc | apply pw_below_drewN | apply below_drew1 | refine below_set ?_ GE712.out | refine below_set ?_ GE713.out | refine below_set ?_ GE714.out | refine below_set ?_ GE719.out) | exact HB.out)⟩⟩
                case round =>
                  clear H'
                  try clear c1
                  try clear c2
                  try clear p2
                  try clear c3
                  try clear c5
                  try clear p6
                  try clear c7
                  try clear p7
                  try clear q7
                  try clear hx7
                  try clear c8
                  try clear c11
                  try clear c11b0
                  try clear c12
                  try clear c13
                  try clear c13b0
                  try clear c14
                  try clear c14b0
                  try clear c18
                  try clear c19
                  try clear c20
                  try clear c22
                  try clear c22b0
                  try clear c22b1
                  try clear c23
                  try clear c24
                  try clear c25
                  try clear hcz21_0
                  try clear hcz21_1
                  try clear hcz21_2
                  try clear hcz21_3
                  try clear hcz26_0
                  try clear hcz26_1
                  try clear hcz26_2
                  try clear hcz26_3
                  try clear hcz9_0
                  try clear hcz9_1
                  try clear hfz21_0
                  try clear hfz21_1
                  try clear hfz21_2
                  try clear hfz21_3
                  try clear hfz26_0
                  try clear hfz26_1
                  try clear hfz26_2
                  try clear hfz26_3
                  try clear hfz9_0
                  try clear hfz9_1
                  try clear hx717_0
                  try clear p2
                  try clear p6
                  try clear p7
                  try clear p717
                  try clear q7
                  try clear q717
                  obtain ⟨x13_4, x14_4, rfl, rfl, HA, HK4, HO_715001, BK712, BK713, BK714, BK719, HB⟩ := hrel
                  cases gk with
                  | zero => exact absurd HA.out (by simp [L28_made.l1])
                  | succ k4 =>
                    have H := HA.out
                    clear HA
                    simp only [L28_made.l1] at H
                    by_cases c27 : x14_4 < (x715001_1.length : Int)
                    · rw [if_pos c27] at H
                      have c27b0 : decide (x14_4 < (x715001_1.length : Int)) = true := decide_eq_true c27
                      clear c27
                      by_cases c28 : 0 ≤ x14_4
                      rotate_left
                      · rw [if_neg c28] at H
                        exact absurd H (by simp)
                      rw [if_pos c28] at H
                      have c28b0 : decide (0 ≤ x14_4) = true := decide_eq_true c28
                      clear c28
                      by_cases c29 : x13_4 = true
                      · subst c29
                        have H1 : (L28_made.l1 k4 l0 a1 a2 (wrap64 (x9_1 + (Int.tmod t718 4))) x10_1 true (wrap64 (x14_4 + 1)) 20 x715001_1 x720000_15 x720001_15 x720002_15 x720003_15) = some (r1, r2, r3, r4, r5, r6, r7, r8, r9, r10, r11, r12) := by rw [if_pos rfl] at H; exact H
                        clear H
                        have H := H1
                        clear H1
                        have H' := Aside0.mk H
                        clear H
                        have hnb30 := NB714_712.out
                        have hnc30 := NB712_714.out
                        have hnb31 := NB714_713.out
                        have hnc31 := NB713_714.out
                        have hnb32 := NB714_719.out
                        have hnc32 := NB719_714.out
                        have hcz33_0 : wr.cell? ⟨gb714, 0, none⟩ = some (.int .i64 20) := (blk_cell BK714.out 0).trans rfl
                        have hcz33_1 : wr.cell? ⟨gb714, 1, none⟩ = some (u715001) := (blk_cell BK714.out 1).trans rfl
                        have hfz33_0 := blk_frozen BK714.out 0
                        have hfz33_1 := blk_frozen BK714.out 1
                        obtain ⟨Ao34, co34, eo34⟩ := Kd.R_slice HO_715001.out
                        subst eo34
                        have p720 : 0 ≤ (x14_4 : Int) := of_decide_eq_true (by first | (with_reducible assumption) | assumption)
                        have q720 : x14_4 < (x715001_1.length : Int) := of_decide_eq_true (by first | (with_reducible assumption) | assumption)
                        obtain ⟨ad720, e720, hx720_0, hx720_1, hx720_2, hx720_3⟩ := at_T29 (Kd.R_reads' HO_715001.out).2.2 x14_4 p720 q720
                        cases e720
                        replace p720 := eq_true p720
                        replace q720 := eq_true q720
                        go_wp2_with (first | ((with_reducible refine gate_dst (N := 15) rfl ?_); refine box_event ?hg (N := 15) ?hd (cs := #[.int .i64 0, .int .i64 0, .int .i64 0, .int .i64 0]) (t := 29) ?hr ?_; (case hd => rfl); (case hg => rfl); (case hr => first | (go_simp; done) | (go_simp; rfl)); intro gb721 hg w35 hbox hb; have n0_ := Aside0.mk (Kd.R_below (Kd.R_elderB (by (with_reducible repeat (first | apply Kd.R_alloc | apply Kd.R_drewN | apply Kd.R_drew)); exact HO_715001.out) gb721 (Nat.le_of_eq hg.symm)) hb); have n1_ := Aside0.mk (blk_below (g := gb712) (o := .cells #[.int .i64 0, .slice none 0 0] 25 (0, 0)) (by (with_reducible repeat (first | refine blk_drewN ?_ _ | refine blk_drew ?_ | refine blk_alloc ?_ _)); exact BK712.out) hb); have n2_ := Aside0.mk (blk_below (g := gb713) (o := .cells #[.int .i64 0, .int .i64 0, .int .i64 0, .int .i64 0, .int .i64 0, .int .i64 0, .int .i64 0, .int .i64 0, .int .i64 0, .slice none 0 0] 60 (0, 0)) (by (with_reducible repeat (first | refine blk_drewN ?_ _ | refine blk_drew ?_ | refine blk_alloc ?_ _)); exact BK713.out) hb); have n3_ := Aside0.mk (blk_below (g := gb714) (o := .cells #[.int .i64 20, .slice (some ad720) x715001_1.length co34] 25 (0, 0)) (by (with_reducible repeat (first | refine blk_drewN ?_ _ | refine blk_drew ?_ | refine blk_alloc ?_ _)); exact BK714.out) hb); have n4_ := Aside0.mk (blk_below (g := gb719) (o := .cells #[.int .i64 x720000_15, .int .i64 x720001_15, .int .i64 x720002_15, .int .i64 x720003_15] 29 (0, 0)) (by (with_reducible repeat (first | refine blk_drewN ?_ _ | refine blk_drew ?_ | refine blk_alloc ?_ _)); exact BK719.out) hb); have n5_ := Aside0.mk (below_step (by repeat (first | (with_reducible first | exact HB.out | apply below_alloc | apply pw_below_drewN | apply below_drew1 | refine below_set ?_ GE712.out | refine below_set ?_ GE713.out | refine below_set ?_ GE714.out | refine below_set ?_ GE719.out) | exact HB.out)) hb); have n6_ := Aside0.mk (hbox); have n7_ := Aside0.mk ((by rw [hg]; exact (below_size (by repeat (first | (with_reducible first | exact HB.out | apply below_alloc | apply pw_below_drewN | apply below_drew1 | refine below_set ?_ GE712.out | refine below_set ?_ GE713.out | refine below_set ?_ GE714.out | refine below_set ?_ GE719.out) | exact HB.out))) : w.heap.size ≤ gb721)); have n8_ := Aside0.mk ((by rw [hg]; exact (below_size (by repeat (first | (with_reducible first | exact HB.out | apply below_alloc | apply pw_below_drewN | apply below_drew1 | refine below_set ?_ GE712.out | refine below_set ?_ GE713.out | refine below_set ?_ GE714.out | refine below_set ?_ GE719.out) | exact HB.out))) : w.heap.size ≤ gb721)); have n9_ := Aside0.mk ((by rw [hg]; exact Nat.ne_of_lt (blk_lt (g := gb712) (o := .cells #[.int .i64 0, .slice none 0 0] 25 (0, 0)) (by (with_reducible repeat (first | refine blk_drewN ?_ _ | refine blk_drew ?_ | refine blk_alloc ?_ _)); exact BK712.out)) : gb712 ≠ gb721)); have n10_ := Aside0.mk ((by rw [hg]; exact Nat.ne_of_gt (blk_lt (g := gb712) (o := .cells #[.int .i64 0, .slice none 0 0] 25 (0, 0)) (by (with_reducible repeat (first | refine blk_drewN ?_ _ | refine blk_drew ?_ | refine blk_alloc ?_ _)); exact BK712.out)) : gb721 ≠ gb712)); have n11_ := Aside0.mk ((by rw [hg]; exact Nat.ne_of_lt (blk_lt (g := gb713) (o := .cells #[.int .i64 0, .int .i64 0, .int .i64 0, .int .i64 0, .int .i64 0, .int .i64 0, .int .i64 0, .int .i64 0, .int .i64 0, .slice none 0 0] 60 (0, 0)) (by (with_reducible repeat (first | refine blk_drewN ?_ _ | refine blk_drew ?_ | refine blk_alloc ?_ _)); exact BK713.out)) : gb713 ≠ gb721)); have n12_ := Aside0.mk ((by rw [hg]; exact Nat.ne_of_gt (blk_lt (g := gb713) (o := .cells #[.int .i64 0, .int .i64 0, .int .i64 0, .int .i64 0, .int .i64 0, .int .i64 0, .int .i64 0, .int .i64 0, .int .i64 0, .slice none 0 0] 60 (0, 0)) (by (with_reducible repeat (first | refine blk_drewN ?_ _ | refine blk_drew ?_ | refine blk_alloc ?_ _)); exact BK713.out)) : gb721 ≠ gb713)); have n13_ := Aside0.mk ((by rw [hg]; exact Nat.ne_of_lt (blk_lt (g := gb714) (o := .cells #[.int .i64 20, .slice (some ad720) x715001_1.length co34] 25 (0, 0)) (by (with_reducible repeat (first | refine blk_drewN ?_ _ | refine blk_drew ?_ | refine blk_alloc ?_ _)); exact BK714.out)) : gb714 ≠ gb721)); have n14_ := Aside0.mk ((by rw [hg]; exact Nat.ne_of_gt (blk_lt (g := gb714) (o := .cells #[.int .i64 20, .slice (some ad720) x715001_1.length co34] 25 (0, 0)) (by (with_reducible repeat (first | refine blk_drewN ?_ _ | refine blk_drew ?_ | refine blk_alloc ?_ _)); exact BK714.out)) : gb721 ≠ gb714)); have n15_ := Aside0.mk ((by rw [hg]; exact Nat.ne_of_lt (blk_lt (g := gb719) (o := .cells #[.int .i64 x720000_15, .int .i64 x720001_15, .int .i64 x720002_15, .int .i64 x720003_15] 29 (0, 0)) (by (with_reducible repeat (first | refine blk_drewN ?_ _ | refine blk_drew ?_ | refine blk_alloc ?_ _)); exact BK719.out)) : gb719 ≠ gb721)); have n16_ := Aside0.mk ((by rw [hg]; exact Nat.ne_of_gt (blk_lt (g := gb719) (o := .cells #[.int .i64 x720000_15, .int .i64 x720001_15, .int .i64 x720002_15, .int .i64 x720003_15] 29 (0, 0)) (by (with_reducible repeat (first | refine blk_drewN ?_ _ | refine blk_drew ?_ | refine blk_alloc ?_ _)); exact BK719.out)) : gb721 ≠ gb719)); clear HO_715001; clear BK712; clear BK713; clear BK714; clear BK719; clear HB; have HO_715001 := n0_; have BK712 := n1_; have BK713 := n2_; have BK714 := n3_; have BK719 := n4_; have HB := n5_; have BK721 := n6_; have GW721 := n7_; have GE721 := n8_; have NB712_721 := n9_; have NB721_712 := n10_; have NB713_721 := n11_; have NB721_713 := n12_; have NB714_721 := n13_; have NB721_714 := n14_; have NB719_721 := n15_; have NB721_719 := n16_; clear n0_ n1_ n2_ n3_ n4_ n5_ n6_ n7_ n8_ n9_ n10_ n11_ n12_ n13_ n14_ n15_ n16_; clear hb hbox hg; have hnb36 := NB721_712.out; have hnc36 := NB712_721.out; have hnb37 := NB721_713.out; have hnc37 := NB713_721.out; have hnb38 := NB721_714.out; have hnc38 := NB714_721.out; have hnb39 := NB721_719.out; have hnc39 := NB719_721.out; have hcz40_0 : w35.cell? ⟨gb721, 0, none⟩ = some (.int .i64 0) := (blk_cell BK721.out 0).trans rfl; have hcz40_1 : w35.cell? ⟨gb721, 1, none⟩ = some (.int .i64 0) := (blk_cell BK721.out 1).trans rfl; have hcz40_2 : w35.cell? ⟨gb721, 2, none⟩ = some (.int .i64 0) := (blk_cell BK721.out 2).trans rfl; have hcz40_3 : w35.cell? ⟨gb721, 3, none⟩ = some (.int .i64 0) := (blk_cell BK721.out 3).trans rfl; have hfz40_0 := blk_frozen BK721.out 0; have hfz40_1 := blk_frozen BK721.out 1; have hfz40_2 := blk_frozen BK721.out 2; have hfz40_3 := blk_frozen BK721.out 3))
                        go_roundg k4
                        case measure => have := HK1.out; have := HJ9.out; have := HJ15.out; have := HK4.out; omega
                        case rel => exact ⟨(true), (wrap64 (x14_4 + 1)), (by first | rfl | (simp; done) | (simp [*]; done)), (by first | rfl | (simp; done) | (simp [*]; done)), H', ⟨by have := HK1.out; have := HJ9.out; have := HJ15.out; have := HK4.out; omega⟩, ⟨by (with_reducible repeat (first | apply Kd.R_alloc | apply Kd.R_drewN | apply Kd.R_drew)); exact Kd.R_mono (Kd.R_far (p := ⟨gb721, 3, none⟩) (Kd.R_far (p := ⟨gb721, 2, none⟩) (Kd.R_far (p := ⟨gb721, 1, none⟩) (Kd.R_far (p := ⟨gb721, 0, none⟩) (Kd.R_mono HO_715001.out (fun k_ hk => (⟨hk, hk.2⟩ : _ ∧ k_ ≠ gb721))) (fun _ hk => hk.2) (.int .i64 ((rd_T29 x715001_1 x14_4).f0))) (fun _ hk => hk.2) (.int .i64 ((rd_T29 x715001_1 x14_4).f1))) (fun _ hk => hk.2) (.int .i64 ((rd_T29 x715001_1 x14_4).f2))) (fun _ hk => hk.2) (.int .i64 ((rd_T29 x715001_1 x14_4).f3))) (fun _ hk => hk.1.1)⟩, ⟨by (with_reducible repeat (first | refine blk_drewN ?_ _ | refine blk_drew ?_ | refine blk_alloc ?_ _)); refine blk_far ?_ NB712_721.out _; (with_reducible repeat (first | refine blk_drewN ?_ _ | refine blk_drew ?_ | refine blk_alloc ?_ _)); refine blk_far ?_ NB712_721.out _; (with_reducible repeat (first | refine blk_drewN ?_ _ | refine blk_drew ?_ | refine blk_alloc ?_ _)); refine blk_far ?_ NB712_721.out _; (with_reducible repeat (first | refine blk_drewN ?_ _ | refine blk_drew ?_ | refine blk_alloc ?_ _)); refine blk_far ?_ NB712_721.out _; (with_reducible repeat (first | refine blk_drewN ?_ _ | refine blk_drew ?_ | refine blk_alloc ?_ _)); exact BK712.out⟩, ⟨by (with_reducible repeat (first | refine blk_drewN ?_ _ | refine blk_drew ?_ | refine blk_alloc ?_ _)); refine blk_far ?_ NB713_721.out _; (with_reducible repeat (first | refine blk_drewN ?_ _ | refine blk_drew ?_ | refine blk_alloc ?_ _)); refine blk_far ?_ NB713_721.out _; (with_reducible repeat (first | refine blk_drewN ?_ _ | refine blk_drew ?_ | refine blk_alloc ?_ _)); refine blk_far ?_ NB713_721.out _; (with_reducible repeat (first | refine blk_drewN ?_ _ | refine blk_drew ?_ | refine blk_alloc ?_ _)); refine blk_far ?_ NB713_721.out _; (with_reducible repeat (first | refine blk_drewN ?_ _ | refine blk_drew ?_ | refine blk_alloc ?_ _)); exact BK713.out⟩, ⟨by (with_reducible repeat (first | refine blk_drewN ?_ _ | refine blk_drew ?_ | refine blk_alloc ?_ _)); refine blk_far ?_ NB714_721.out _; (with_reducible repeat (first | refine blk_drewN ?_ _ | refine blk_drew ?_ | refine blk_alloc ?_ _)); refine blk_far ?_ NB714_721.out _; (with_reducible repeat (first | refine blk_drewN ?_ _ | refine blk_drew ?_ | refine blk_alloc ?_ _)); refine blk_far ?_ NB714_721.out _; (with_reducible repeat (first | refine blk_drewN ?_ _ | refine blk_drew ?_ | refine blk_alloc ?_ _)); refine blk_far ?_ NB714_721.out _; (with_reducible repeat (first | refine blk_drewN ?_ _ | refine blk_drew ?_ | refine blk_alloc ?_ _)); exact BK714.out⟩, ⟨by (with_reducible repeat (first | refine blk_drewN ?_ _ | refine blk_drew ?_ | refine blk_alloc ?_ _)); refine blk_far ?_ NB719_721.out _; (with_reducible repeat (first | refine blk_drewN ?_ _ | refine blk_drew ?_ | refine blk_alloc ?_ _)); refine blk_far ?_ NB719_721.out _; (with_reducible repeat (first | refine blk_drewN ?_ _ | refine blk_drew ?_ | refine blk_alloc ?_ _)); refine blk_far ?_ NB719_721.out _; (with_reducible repeat (first | refine blk_drewN ?_ _ | refine blk_drew ?_ | refine blk_alloc ?_ _)); refine blk_far ?_ NB719_721.out _; (with_reducible repeat (first | refine blk_drewN ?_ _ | refine blk_drew ?_ | refine blk_alloc ?_ _)); exact BK719.out⟩, ⟨by repeat (first | (with_reducible first | exact HB.out | apply below_alloc | apply pw_below_drewN | apply below_drew1 | refine below_set ?_ GE712.out | refine below_set ?_ GE713.out | refine below_set ?_ GE714.out | refine below_set ?_ GE719.out | refine below_set ?_ GE721.out) | exact HB.out)⟩⟩
                      · replace c29 := Bool.eq_false_iff.mpr c29
                        subst c29
                        have H1 : (if ((rd_T29 x715001_1 x14_4).f0) = x720000_15 then (if ((rd_T29 x715001_1 x14_4).f1) = x720001_15 then (L28_made.l1 k4 l0 a1 a2 (wrap64 (x9_1 + (Int.tmod t718 4))) x10_1 (((rd_T29 x715001_1 x14_4).f2) == x720002_15) (wrap64 (x14_4 + 1)) 20 x715001_1 x720000_15 x720001_15 x720002_15 x720003_15) else (L28_made.l1 k4 l0 a1 a2 (wrap64 (x9_1 + (Int.tmod t718 4))) x10_1 false (wrap64 (x14_4 + 1)) 20 x715001_1 x720000_15 x720001_15 x720002_15 x720003_15)) else (L28_made.l1 k4 l0 a1 a2 (wrap64 (x9_1 + (Int.tmod t718 4))) x10_1 false (wrap64 (x14_4 + 1)) 20 x715001_1 x720000_15 x720001_15 x720002_15 x720003_15)) = some (r1, r2, r3, r4, r5, r6, r7, r8, r9, r10, r11, r12) := by rw [if_neg (show ¬ (false = true) by decide)] at H; exact H
                        clear H
                        have H := H1
                        clear H1
                        by_cases c41 : ((rd_T29 x715001_1 x14_4).f0) = x720000_15
                        · rw [if_pos c41] at H
                          have c41b0 : (((rd_T29 x715001_1 x14_4).f0) == x720000_15) = true := beq_iff_eq.mpr c41
                          have c41b1 : (((rd_T29 x715001_1 x14_4).f0) != x720000_15) = false := bne_eq_false_iff_eq.mpr c41
                          clear c41
                          by_cases c42 : ((rd_T29 x715001_1 x14_4).f1) = x720001_15
                          · rw [if_pos c42] at H
                            have c42b0 : (((rd_T29 x715001_1 x14_4).f1) == x720001_15) = true := beq_iff_eq.mpr c42
                            have c42b1 : (((rd_T29 x715001_1 x14_4).f1) != x720001_15) = false := bne_eq_false_iff_eq.mpr c42
                            clear c42
                            have H' := Aside0.mk H
                            clear H
                            have hnb43 := NB714_712.out
                            have hnc43 := NB712_714.out
                            have hnb44 := NB714_713.out
                            have hnc44 := NB713_714.out
                            have hnb45 := NB714_719.out
                            have hnc45 := NB719_714.out
                            have hcz46_0 : wr.cell? ⟨gb714, 0, none⟩ = some (.int .i64 20) := (blk_cell BK714.out 0).trans rfl
                            have hcz46_1 : wr.cell? ⟨gb714, 1, none⟩ = some (u715001) := (blk_cell BK714.out 1).trans rfl
                            have hfz46_0 := blk_frozen BK714.out 0
                            have hfz46_1 := blk_frozen BK714.out 1
                            obtain ⟨Ao47, co47, eo47⟩ := Kd.R_slice HO_715001.out
                            subst eo47
                            have p720 : 0 ≤ (x14_4 : Int) := of_decide_eq_true (by first | (with_reducible assumption) | assumption)
                            have q720 : x14_4 < (x715001_1.length : Int) := of_decide_eq_true (by first | (with_reducible assumption) | assumption)
                            obtain ⟨ad720, e720, hx720_0, hx720_1, hx720_2, hx720_3⟩ := at_T29 (Kd.R_reads' HO_715001.out).2.2 x14_4 p720 q720
                            cases e720
                            replace p720 := eq_true p720
                            replace q720 := eq_true q720
                            go_wp2_with (first | ((with_reducible refine gate_dst (N := 15) rfl ?_); refine box_event ?hg (N := 15) ?hd (cs := #[.int .i64 0, .int .i64 0, .int .i64 0, .int .i64 0]) (t := 29) ?hr ?_; (case hd => rfl); (case hg => rfl); (case hr => first | (go_simp; done) | (go_simp; rfl)); intro gb721 hg w48 hbox hb; have n0_ := Aside0.mk (Kd.R_below (Kd.R_elderB (by (with_reducible repeat (first | apply Kd.R_alloc | apply Kd.R_drewN | apply Kd.R_drew)); exact HO_715001.out) gb721 (Nat.le_of_eq hg.symm)) hb); have n1_ := Aside0.mk (blk_below (g := gb712) (o := .cells #[.int .i64 0, .slice none 0 0] 25 (0, 0)) (by (with_reducible repeat (first | refine blk_drewN ?_ _ | refine blk_drew ?_ | refine blk_alloc ?_ _)); exact BK712.out) hb); have n2_ := Aside0.mk (blk_below (g := gb713) (o := .cells #[.int .i64 0, .int .i64 0, .int .i64 0, .int .i64 0, .int .i64 0, .int .i64 0, .int .i64 0, .int .i64 0, .int .i64 0, .slice none 0 0] 60 (0, 0)) (by (with_reducible repeat (first | refine blk_drewN ?_ _ | refine blk_drew ?_ | refine blk_alloc ?_ _)); exact BK713.out) hb); have n3_ := Aside0.mk (blk_below (g := gb714) (o := .cells #[.int .i64 20, .slice (some ad720) x715001_1.length co47] 25 (0, 0)) (by (with_reducible repeat (first | refine blk_drewN ?_ _ | refine blk_drew ?_ | refine blk_alloc ?_ _)); exact BK714.out) hb); have n4_ := Aside0.mk (blk_below (g := gb719) (o := .cells #[.int .i64 x720000_15, .int .i64 x720001_15, .int .i64 x720002_15, .int .i64 x720003_15] 29 (0, 0)) (by (with_reducible repeat (first | refine blk_drewN ?_ _ | refine blk_drew ?_ | refine blk_alloc ?_ _)); exact BK719.out) hb); have n5_ := Aside0.mk (below_step (by repeat (first | (with_reducible first | exact HB.out | apply below_alloc | apply pw_below_drewN | apply below_drew1 | refine below_set ?_ GE712.out | refine below_set ?_ GE713.out | refine below_set ?_ GE714.out | refine below_set ?_ GE719.out) | exact HB.out)) hb); have n6_ := Aside0.mk (hbox); have n7_ := Aside0.mk ((by rw [hg]; exact (below_size (by repeat (first | (with_reducible first | exact HB.out | apply below_alloc | apply pw_below_drewN | apply below_drew1 | refine below_set ?_ GE712.out | refine below_set ?_ GE713.out | refine below_set ?_ GE714.out | refine below_set ?_ GE719.out) | exact HB.out))) : w.heap.size ≤ gb721)); have n8_ := Aside0.mk ((by rw [hg]; exact (below_size (by repeat (first | (with_reducible first | exact HB.out | apply below_alloc | apply pw_below_drewN | apply below_drew1 | refine below_set ?_ GE712.out | refine below_set ?_ GE713.out | refine below_set ?_ GE714.out | refine below_set ?_ GE719.out) | exact HB.out))) : w.heap.size ≤ gb721)); have n9_ := Aside0.mk ((by rw [hg]; exact Nat.ne_of_lt (blk_lt (g := gb712) (o := .cells #[.int .i64 0, .slice none 0 0] 25 (0, 0)) (by (with_reducible repeat (first | refine blk_drewN ?_ _ | refine blk_drew ?_ | refine blk_alloc ?_ _)); exact BK712.out)) : gb712 ≠ gb721)); have n10_ := Aside0.mk ((by rw [hg]; exact Nat.ne_of_gt (blk_lt (g := gb712) (o := .cells #[.int .i64 0, .slice none 0 0] 25 (0, 0)) (by (with_reducible repeat (first | refine blk_drewN ?_ _ | refine blk_drew ?_ | refine blk_alloc ?_ _)); exact BK712.out)) : gb721 ≠ gb712)); have n11_ := Aside0.mk ((by rw [hg]; exact Nat.ne_of_lt (blk_lt (g := gb713) (o := .cells #[.int .i64 0, .int .i64 0, .int .i64 0, .int .i64 0, .int .i64 0, .int .i64 0, .int .i64 0, .int .i64 0, .int .i64 0, .slice none 0 0] 60 (0, 0)) (by (with_reducible repeat (first | refine blk_drewN ?_ _ | refine blk_drew ?_ | refine blk_alloc ?_ _)); exact BK713.out)) : gb713 ≠ gb721)); have n12_ := Aside0.mk ((by rw [hg]; exact Nat.ne_of_gt (blk_lt (g := gb713) (o := .cells #[.int .i64 0, .int .i64 0, .int .i64 0, .int .i64 0, .int .i64 0, .int .i64 0, .int .i64 0, .int .i64 0, .int .i64 0, .slice none 0 0] 60 (0, 0)) (by (with_reducible repeat (first | refine blk_drewN ?_ _ | refine blk_drew ?_ | refine blk_alloc ?_ _)); exact BK713.out)) : gb721 ≠ gb713)); have n13_ := Aside0.mk ((by rw [hg]; exact Nat.ne_of_lt (blk_lt (g := gb714) (o := .cells #[.int .i64 20, .slice (some ad720) x715001_1.length co47] 25 (0, 0)) (by (with_reducible repeat (first | refine blk_drewN ?_ _ | refine blk_drew ?_ | refine blk_alloc ?_ _)); exact BK714.out)) : gb714 ≠ gb721)); have n14_ := Aside0.mk ((by rw [hg]; exact Nat.ne_of_gt (blk_lt (g := gb714) (o := .cells #[.int .i64 20, .slice (some ad720) x715001_1.length co47] 25 (0, 0)) (by (with_reducible repeat (first | refine blk_drewN ?_ _ | refine blk_drew ?_ | refine blk_alloc ?_ _)); exact BK714.out)) : gb721 ≠ gb714)); have n15_ := Aside0.mk ((by rw [hg]; exact Nat.ne_of_lt (blk_lt (g := gb719) (o := .cells #[.int .i64 x720000_15, .int .i64 x720001_15, .int .i64 x720002_15, .int .i64 x720003_15] 29 (0, 0)) (by (with_reducible repeat (first | refine blk_drewN ?_ _ | refine blk_drew ?_ | refine blk_alloc ?_ _)); exact BK719.out)) : gb719 ≠ gb721)); have n16_ := Aside0.mk ((by rw [hg]; exact Nat.ne_of_gt (blk_lt (g := gb719) (o := .cells #[.int .i64 x720000_15, .int .i64 x720001_15, .int .i64 x720002_15, .int .i64 x720003_15] 29 (0, 0)) (by (with_reducible repeat (first | refine blk_drewN ?_ _ | refine blk_drew ?_ | refine blk_alloc ?_ _)); exact BK719.out)) : gb721 ≠ gb719)); clear HO_715001; clear BK712; clear BK713; clear BK714; clear BK719; clear HB; have HO_715001 := n0_; have BK712 := n1_; have BK713 := n2_; have BK714 := n3_; have BK719 := n4_; have HB := n5_; have BK721 := n6_; have GW721 := n7_; have GE721 := n8_; have NB712_721 := n9_; have NB721_712 := n10_; have NB713_721 := n11_; have NB721_713 := n12_; have NB714_721 := n13_; have NB721_714 := n14_; have NB719_721 := n15_; have NB721_719 := n16_; clear n0_ n1_ n2_ n3_ n4_ n5_ n6_ n7_ n8_ n9_ n10_ n11_ n12_ n13_ n14_ n15_ n16_; clear hb hbox hg; have hnb49 := NB721_712.out; have hnc49 := NB712_721.out; have hnb50 := NB721_713.out; have hnc50 := NB713_721.out; have hnb51 := NB721_714.out; have hnc51 := NB714_721.out; have hnb52 := NB721_719.out; have hnc52 := NB719_721.out; have hcz53_0 : w48.cell? ⟨gb721, 0, none⟩ = some (.int .i64 0) := (blk_cell BK721.out 0).trans rfl; have hcz53_1 : w48.cell? ⟨gb721, 1, none⟩ = some (.int .i64 0) := (blk_cell BK721.out 1).trans rfl; have hcz53_2 : w48.cell? ⟨gb721, 2, none⟩ = some (.int .i64 0) := (blk_cell BK721.out 2).trans rfl; have hcz53_3 : w48.cell? ⟨gb721, 3, none⟩ = some (.int .i64 0) := (blk_cell BK721.out 3).trans rfl; have hfz53_0 := blk_frozen BK721.out 0; have hfz53_1 := blk_frozen BK721.out 1; have hfz53_2 := blk_frozen BK721.out 2; have hfz53_3 := blk_frozen BK721.out 3; have hnb54 := NB719_712.out; have hnc54 := NB712_719.out; have hnb55 := NB719_713.out; have hnc55 := NB713_719.out; have hcz56_0 : w48.cell? ⟨gb719, 0, none⟩ = some (.int .i64 x720000_15) := (blk_cell BK719.out 0).trans rfl; have hcz56_1 : w48.cell? ⟨gb719, 1, none⟩ = some (.int .i64 x720001_15) := (blk_cell BK719.out 1).trans rfl; have hcz56_2 : w48.cell? ⟨gb719, 2, none⟩ = some (.int .i64 x720002_15) := (blk_cell BK719.out 2).trans rfl; have hcz56_3 : w48.cell? ⟨gb719, 3, none⟩ = some (.int .i64 x720003_15) := (blk_cell BK719.out 3).trans rfl; have hfz56_0 := blk_frozen BK719.out 0; have hfz56_1 := blk_frozen BK719.out 1; have hfz56_2 := blk_frozen BK719.out 2; have hfz56_3 := blk_frozen BK719.out 3))
                            go_roundg k4
                            case measure => have := HK1.out; have := HJ9.out; have := HJ15.out; have := HK4.out; omega
                            case rel => exact ⟨((((rd_T29 x715001_1 x14_4).f2) == x720002_15)), (wrap64 (x14_4 + 1)), (by first | rfl | (simp; done) | (simp [*]; done)), (by first | rfl | (simp; done) | (simp [*]; done)), H', ⟨by have := HK1.out; have := HJ9.out; have := HJ15.out; have := HK4.out; omega⟩, ⟨by (with_reducible repeat (first | apply Kd.R_alloc | apply Kd.R_drewN | apply Kd.R_drew)); exact Kd.R_mono (Kd.R_far (p := ⟨gb721, 3, none⟩) (Kd.R_far (p := ⟨gb721, 2, none⟩) (Kd.R_far (p := ⟨gb721, 1, none⟩) (Kd.R_far (p := ⟨gb721, 0, none⟩) (Kd.R_mono HO_715001.out (fun k_ hk => (⟨hk, hk.2⟩ : _ ∧ k_ ≠ gb721))) (fun _ hk => hk.2) (.int .i64 ((rd_T29 x715001_1 x14_4).f0))) (fun _ hk => hk.2) (.int .i64 ((rd_T29 x715001_1 x14_4).f1))) (fun _ hk => hk.2) (.int .i64 ((rd_T29 x715001_1 x14_4).f2))) (fun _ hk => hk.2) (.int .i64 ((rd_T29 x715001_1 x14_4).f3))) (fun _ hk => hk.1.1)⟩, ⟨by (with_reducible repeat (first | refine blk_drewN ?_ _ | refine blk_drew ?_ | refine blk_alloc ?_ _)); refine blk_far ?_ NB712_721.out _; (with_reducible repeat (first | refine blk_drewN ?_ _ | refine blk_drew ?_ | refine blk_alloc ?_ _)); refine blk_far ?_ NB712_721.out _; (with_reducible repeat (first | refine blk_drewN ?_ _ | refine blk_drew ?_ | refine blk_alloc ?_ _)); refine blk_far ?_ NB712_721.out _; (with_reducible repeat (first | refine blk_drewN ?_ _ | refine blk_drew ?_ | refine blk_alloc ?_ _)); refine blk_far ?_ NB712_721.out _; (with_reducible repeat (first | refine blk_drewN ?_ _ | refine blk_drew ?_ | refine blk_alloc ?_ _)); exact BK712.out⟩, ⟨by (with_reducible repeat (first | refine blk_drewN ?_ _ | refine blk_drew ?_ | refine blk_alloc ?_ _)); refine blk_far ?_ NB713_721.out _; (with_reducible repeat (first | refine blk_drewN ?_ _ | refine blk_drew ?_ | refine blk_alloc ?_ _)); refine blk_far ?_ NB713_721.out _; (with_reducible repeat (first | refine blk_drewN ?_ _ | refine blk_drew ?_ | refine blk_alloc ?_ _)); refine blk_far ?_ NB713_721.out _; (with_reducible repeat (first | refine blk_drewN ?_ _ | refine blk_drew ?_ | refine blk_alloc ?_ _)); refine blk_far ?_ NB713_721.out _; (with_reducible repeat (first | refine blk_drewN ?_ _ | refine blk_drew ?_ | refine blk_alloc ?_ _)); exact BK713.out⟩, ⟨by (with_reducible repeat (first | refine blk_drewN ?_ _ | refine blk_drew ?_ | refine blk_alloc ?_ _)); refine blk_far ?_ NB714_721.out _; (with_reducible repeat (first | refine blk_drewN ?_ _ | refine blk_drew ?_ | refine blk_alloc ?_ _)); refine blk_far ?_ NB714_721.out _; (with_reducible repeat (first | refine blk_drewN ?_ _ | refine blk_drew ?_ | refine blk_alloc ?_ _)); refine blk_far ?_ NB714_721.out _; (with_reducible repeat (first | refine blk_drewN ?_ _ | refine blk_drew ?_ | refine blk_alloc ?_ _)); refine blk_far ?_ NB714_721.out _; (with_reducible repeat (first | refine blk_drewN ?_ _ | refine blk_drew ?_ | refine blk_alloc ?_ _)); exact BK714.out⟩, ⟨by (with_reducible repeat (first | refine blk_drewN ?_ _ | refine blk_drew ?_ | refine blk_alloc ?_ _)); refine blk_far ?_ NB719_721.out _; (with_reducible repeat (first | refine blk_drewN ?_ _ | refine blk_drew ?_ | refine blk_alloc ?_ _)); refine blk_far ?_ NB719_721.out _; (with_reducible repeat (first | refine blk_drewN ?_ _ | refine blk_drew ?_ | refine blk_alloc ?_ _)); refine blk_far ?_ NB719_721.out _; (with_reducible repeat (first | refine blk_drewN ?_ _ | refine blk_drew ?_ | refine blk_alloc ?_ _)); refine blk_far ?_ NB719_721.out _; (with_reducible repeat (first | refine blk_drewN ?_ _ | refine blk_drew ?_ | refine blk_alloc ?_ _)); exact BK719.out⟩, ⟨by repeat (first | (with_reducible first | exact HB.out | apply below_alloc | apply pw_below_drewN | apply below_drew1 | refine below_set ?_ GE712.out | refine below_set ?_ GE713.out | refine below_set ?_ GE714.out | refine below_set ?_ GE719.out | refine below_set ?_ GE721.out) | exact HB.out)⟩⟩
                          · rw [if_neg c42] at H
                            have c42b0 : (((rd_T29 x715001_1 x14_4).f1) == x720001_15) = false := beq_eq_false_iff_ne.mpr c42
                            have c42b1 : (((rd_T29 x715001_1 x14_4).f1) != x720001_15) = true := bne_iff_ne.mpr c42
                            have H' := Aside0.mk H
                            clear H
                            have hnb57 := NB714_712.out
                            have hnc57 := NB712_714.out
                            have hnb58 := NB714_713.out
                            have hnc58 := NB713_714.out
                            have hnb59 := NB714_719.out
                            have hnc59 := NB719_714.out
                            have hcz60_0 : wr.cell? ⟨gb714, 0, none⟩ = some (.int .i64 20) := (blk_cell BK714.out 0).trans rfl
                            have hcz60_1 : wr.cell? ⟨gb714, 1, none⟩ = some (u715001) := (blk_cell BK714.out 1).trans rfl
                            have hfz60_0 := blk_frozen BK714.out 0
                            have hfz60_1 := blk_frozen BK714.out 1
                            obtain ⟨Ao61, co61, eo61⟩ := Kd.R_slice HO_715001.out
                            subst eo61
                            have p720 : 0 ≤ (x14_4 : Int) := of_decide_eq_true (by first | (with_reducible assumption) | assumption)
                            have q720 : x14_4 < (x715001_1.length : Int) := of_decide_eq_true (by first | (with_reducible assumption) | assumption)
                            obtain ⟨ad720, e720, hx720_0, hx720_1, hx720_2, hx720_3⟩ := at_T29 (Kd.R_reads' HO_715001.out).2.2 x14_4 p720 q720
                            cases e720
                            replace p720 := eq_true p720
                            replace q720 := eq_true q720
                            go_wp2_with (first | ((with_reducible refine gate_dst (N := 15) rfl ?_); refine box_event ?hg (N := 15) ?hd (cs := #[.int .i64 0, .int .i64 0, .int .i64 0, .int .i64 0]) (t := 29) ?hr ?_; (case hd => rfl); (case hg => rfl); (case hr => first | (go_simp; done) | (go_simp; rfl)); intro gb721 hg w62 hbox hb; have n0_ := Aside0.mk (Kd.R_below (Kd.R_elderB (by (with_reducible repeat (first | apply Kd.R_alloc | apply Kd.R_drewN | apply Kd.R_drew)); exact HO_715001.out) gb721 (Nat.le_of_eq hg.symm)) hb); have n1_ := Aside0.mk (blk_below (g := gb712) (o := .cells #[.int .i64 0, .slice none 0 0] 25 (0, 0)) (by (with_reducible repeat (first | refine blk_drewN ?_ _ | refine blk_drew ?_ | refine blk_alloc ?_ _)); exact BK712.out) hb); have n2_ := Aside0.mk (blk_below (g := gb713) (o := .cells #[.int .i64 0, .int .i64 0, .int .i64 0, .int .i64 0, .int .i64 0, .int .i64 0, .int .i64 0, .int .i64 0, .int .i64 0, .slice none 0 0] 60 (0, 0)) (by (with_reducible repeat (first | refine blk_drewN ?_ _ | refine blk_drew ?_ | refine blk_alloc ?_ _)); exact BK713.out) hb); have n3_ := Aside0.mk (blk_below (g := gb714) (o := .cells #[.int .i64 20, .slice (some ad720) x715001_1.length co61] 25 (0, 0)) (by (with_reducible repeat (first | refine blk_drewN ?_ _ | refine blk_drew ?_ | refine blk_alloc ?_ _)); exact BK714.out) hb); have n4_ := Aside0.mk (blk_below (g := gb719) (o := .cells #[.int .i64 x720000_15, .int .i64 x720001_15, .int .i64 x720002_15, .int .i64 x720003_15] 29 (0, 0)) (by (with_reducible repeat (first | refine blk_drewN ?_ _ | refine blk_drew ?_ | refine blk_alloc ?_ _)); exact BK719.out) hb); have n5_ := Aside0.mk (below_step (by repeat (first | (with_reducible first | exact HB.out | apply below_alloc | apply pw_below_drewN | apply below_drew1 | refine below_set ?_ GE712.out | refine below_set ?_ GE713.out | refine below_set ?_ GE714.out | refine below_set ?_ GE719.out) | exact HB.out)) hb); have n6_ := Aside0.mk (hbox); have n7_ := Aside0.mk ((by rw [hg]; exact (below_size (by repeat (first | (with_reducible first | exact HB.out | apply below_alloc | apply pw_below_drewN | apply below_drew1 | refine below_set ?_ GE712.out | refine below_set ?_ GE713.out | refine below_set ?_ GE714.out | refine below_set ?_ GE719.out) | exact HB.out))) : w.heap.size ≤ gb721)); have n8_ := Aside0.mk ((by rw [hg]; exact (below_size (by repeat (first | (with_reducible first | exact HB.out | apply below_alloc | apply pw_below_drewN | apply below_drew1 | refine below_set ?_ GE712.out | refine below_set ?_ GE713.out | refine below_set ?_ GE714.out | refine below_set ?_ GE719.out) | exact HB.out))) : w.heap.size ≤ gb721)); have n9_ := Aside0.mk ((by rw [hg]; exact Nat.ne_of_lt (blk_lt (g := gb712) (o := .cells #[.int .i64 0, .slice none 0 0] 25 (0, 0)) (by (with_reducible repeat (first | refine blk_drewN ?_ _ | refine blk_drew ?_ | refine blk_alloc ?_ _)); exact BK712.out)) : gb712 ≠ gb721)); have n10_ := Aside0.mk ((by rw [hg]; exact Nat.ne_of_gt (blk_lt (g := gb712) (o := .cells #[.int .i64 0, .slice none 0 0] 25 (0, 0)) (by (with_reducible repeat (first | refine blk_drewN ?_ _ | refine blk_drew ?_ | refine blk_alloc ?_ _)); exact BK712.out)) : gb721 ≠ gb712)); have n11_ := Aside0.mk ((by rw [hg]; exact Nat.ne_of_lt (blk_lt (g := gb713) (o := .cells #[.int .i64 0, .int .i64 0, .int .i64 0, .int .i64 0, .int .i64 0, .int .i64 0, .int .i64 0, .int .i64 0, .int .i64 0, .slice none 0 0] 60 (0, 0)) (by (with_reducible repeat (first | refine blk_drewN ?_ _ | refine blk_drew ?_ | refine blk_alloc ?_ _)); exact BK713.out)) : gb713 ≠ gb721)); have n12_ := Aside0.mk ((by rw [hg]; exact Nat.ne_of_gt (blk_lt (g := gb713) (o := .cells #[.int .i64 0, .int .i64 0, .int .i64 0, .int .i64 0, .int .i64 0, .int .i64 0, .int .i64 0, .int .i64 0, .int .i64 0, .slice none 0 0] 60 (0, 0)) (by (with_reducible repeat (first | refine blk_drewN ?_ _ | refine blk_drew ?_ | refine blk_alloc ?_ _)); exact BK713.out)) : gb721 ≠ gb713)); have n13_ := Aside0.mk ((by rw [hg]; exact Nat.ne_of_lt (blk_lt (g := gb714) (o := .cells #[.int .i64 20, .slice (some ad720) x715001_1.length co61] 25 (0, 0)) (by (with_reducible repeat (first | refine blk_drewN ?_ _ | refine blk_drew ?_ | refine blk_alloc ?_ _)); exact BK714.out)) : gb714 ≠ gb721)); have n14_ := Aside0.mk ((by rw [hg]; exact Nat.ne_of_gt (blk_lt (g := gb714) (o := .cells #[.int .i64 20, .slice (some ad720) x715001_1.length co61] 25 (0, 0)) (by (with_reducible repeat (first | refine blk_drewN ?_ _ | refine blk_drew ?_ | refine blk_alloc ?_ _)); exact BK714.out)) : gb721 ≠ gb714)); have n15_ := Aside0.mk ((by rw [hg]; exact Nat.ne_of_lt (blk_lt (g := gb719) (o := .cells #[.int .i64 x720000_15, .int .i64 x720001_15, .int .i64 x720002_15, .int .i64 x720003_15] 29 (0, 0)) (by (with_reducible repeat (first | refine blk_drewN ?_ _ | refine blk_drew ?_ | refine blk_alloc ?_ _)); exact BK719.out)) : gb719 ≠ gb721)); have n16_ := Aside0.mk ((by rw [hg]; exact Nat.ne_of_gt (blk_lt (g := gb719) (o := .cells #[.int .i64 x720000_15, .int .i64 x720001_15, .int .i64 x720002_15, .int .i64 x720003_15] 29 (0, 0)) (by (with_reducible repeat (first | refine blk_drewN ?_ _ | refine blk_drew ?_ | refine blk_alloc ?_ _)); exact BK719.out)) : gb721 ≠ gb719)); clear HO_715001; clear BK712; clear BK713; clear BK714; clear BK719; clear HB; have HO_715001 := n0_; have BK712 := n1_; have BK713 := n2_; have BK714 := n3_; have BK719 := n4_; have HB := n5_; have BK721 := n6_; have GW721 := n7_; have GE721 := n8_; have NB712_721 := n9_; have NB721_712 := n10_; have NB713_721 := n11_; have NB721_713 := n12_; have NB714_721 := n13_; have NB721_714 := n14_; have NB719_721 := n15_; have NB721_719 := n16_; clear n0_ n1_ n2_ n3_ n4_ n5_ n6_ n7_ n8_ n9_ n10_ n11_ n12_ n13_ n14_ n15_ n16_; clear hb hbox hg; have hnb63 := NB721_712.out; have hnc63 := NB712_721.out; have hnb64 := NB721_713.out; have hnc64 := NB713_721.out; have hnb65 := NB721_714.out; have hnc65 := NB714_721.out; have hnb66 := NB721_719.out; have hnc66 := NB719_721.out; have hcz67_0 : w62.cell? ⟨gb721, 0, none⟩ = some (.int .i64 0) := (blk_cell BK721.out 0).trans rfl; have hcz67_1 : w62.cell? ⟨gb721, 1, none⟩ = some (.int .i64 0) := (blk_cell BK721.out 1).trans rfl; have hcz67_2 : w62.cell? ⟨gb721, 2, none⟩ = some (.int .i64 0) := (blk_cell BK721.out 2).trans rfl; have hcz67_3 : w62.cell? ⟨gb721, 3, none⟩ = some (.int .i64 0) := (blk_cell BK721.out 3).trans rfl; have hfz67_0 := blk_frozen BK721.out 0; have hfz67_1 := blk_frozen BK721.out 1; have hfz67_2 := blk_frozen BK721.out 2; have hfz67_3 := blk_frozen BK721.out 3; have hnb68 := NB719_712.out; have hnc68 := NB712_719.out; have hnb69 := NB719_713.out; have hnc69 := NB713_719.out; have hcz70_0 : w62.cell? ⟨gb719, 0, none⟩ = some (.int .i64 x720000_15) := (blk_cell BK719.out 0).trans rfl; have hcz70_1 : w62.cell? ⟨gb719, 1, none⟩ = some (.int .i64 x720001_15) := (blk_cell BK719.out 1).trans rfl; have hcz70_2 : w62.cell? ⟨gb719, 2, none⟩ = some (.int .i64 x720002_15) := (blk_cell BK719.out 2).trans rfl; have hcz70_3 : w62.cell? ⟨gb719, 3, none⟩ = some (.int .i64 x720003_15) := (blk_cell BK719.out 3).trans rfl; have hfz70_0 := blk_frozen BK719.out 0; have hfz70_1 := blk_frozen BK719.out 1; have hfz70_2 := blk_frozen BK719.out 2; have hfz70_3 := blk_frozen BK719.out 3))
                            go_roundg k4
                            case measure => have := HK1.out; have := HJ9.out; have := HJ15.out; have := HK4.out; omega
                            case rel => exact ⟨(false), (wrap64 (x14_4 + 1)), (by first | rfl | (simp; done) | (simp [*]; done)), (by first | rfl | (simp; done) | (simp [*]; done)), H', ⟨by have := HK1.out; have := HJ9.out; have := HJ15.out; have := HK4.out; omega⟩, ⟨by (with_reducible repeat (first | apply Kd.R_alloc | apply Kd.R_drewN | apply Kd.R_drew)); exact Kd.R_mono (Kd.R_far (p := ⟨gb721, 3, none⟩) (Kd.R_far (p := ⟨gb721, 2, none⟩) (Kd.R_far (p := ⟨gb721, 1, none⟩) (Kd.R_far (p := ⟨gb721, 0, none⟩) (Kd.R_mono HO_715001.out (fun k_ hk => (⟨hk, hk.2⟩ : _ ∧ k_ ≠ gb721))) (fun _ hk => hk.2) (.int .i64 ((rd_T29 x715001_1 x14_4).f0))) (fun _ hk => hk.2) (.int .i64 ((rd_T29 x715001_1 x14_4).f1))) (fun _ hk => hk.2) (.int .i64 ((rd_T29 x715001_1 x14_4).f2))) (fun _ hk => hk.2) (.int .i64 ((rd_T29 x715001_1 x14_4).f3))) (fun _ hk => hk.1.1)⟩, ⟨by (with_reducible repeat (first | refine blk_drewN ?_ _ | refine blk_drew ?_ | refine blk_alloc ?_ _)); refine blk_far ?_ NB712_721.out _; (with_reducible repeat (first | refine blk_drewN ?_ _ | refine blk_drew ?_ | refine blk_alloc ?_ _)); refine blk_far ?_ NB712_721.out _; (with_reducible repeat (first | refine blk_drewN ?_ _ | refine blk_drew ?_ | refine blk_alloc ?_ _)); refine blk_far ?_ NB712_721.out _; (with_reducible repeat (first | refine blk_drewN ?_ _ | refine blk_drew ?_ | refine blk_alloc ?_ _)); refine blk_far ?_ NB712_721.out _; (with_reducible repeat (first | refine blk_drewN ?_ _ | refine blk_drew ?_ | refine blk_alloc ?_ _)); exact BK712.out⟩, ⟨by (with_reducible repeat (first | refine blk_drewN ?_ _ | refine blk_drew ?_ | refine blk_alloc ?_ _)); refine blk_far ?_ NB713_721.out _; (with_reducible repeat (first | refine blk_drewN ?_ _ | refine blk_drew ?_ | refine blk_alloc ?_ _)); refine blk_far ?_ NB713_721.out _; (with_reducible repeat (first | refine blk_drewN ?_ _ | refine blk_drew ?_ | refine blk_alloc ?_ _)); refine blk_far ?_ NB713_721.out _; (with_reducible repeat (first | refine blk_drewN ?_ _ | refine blk_drew ?_ | refine blk_alloc ?_ _)); refine blk_far ?_ NB713_721.out _; (with_reducible repeat (first | refine blk_drewN ?_ _ | refine blk_drew ?_ | refine blk_alloc ?_ _)); exact BK713.out⟩, ⟨by (with_reducible repeat (first | refine blk_drewN ?_ _ | refine blk_drew ?_ | refine blk_alloc ?_ _)); refine blk_far ?_ NB714_721.out _; (with_reducible repeat (first | refine blk_drewN ?_ _ | refine blk_drew ?_ | refine blk_alloc ?_ _)); refine blk_far ?_ NB714_721.out _; (with_reducible repeat (first | refine blk_drewN ?_ _ | refine blk_drew ?_ | refine blk_alloc ?_ _)); refine blk_far ?_ NB714_721.out _; (with_reducible repeat (first | refine blk_drewN ?_ _ | refine blk_drew ?_ | refine blk_alloc ?_ _)); refine blk_far ?_ NB714_721.out _; (with_reducible repeat (first | refine blk_drewN ?_ _ | refine blk_drew ?_ | refine blk_alloc ?_ _)); exact BK714.out⟩, ⟨by (with_reducible repeat (first | refine blk_drewN ?_ _ | refine blk_drew ?_ | refine blk_alloc ?_ _)); refine blk_far ?_ NB719_721.out _; (with_reducible repeat (first | refine blk_drewN ?_ _ | refine blk_drew ?_ | refine blk_alloc ?_ _)); refine blk_far ?_ NB719_721.out _; (with_reducible repeat (first | refine blk_drewN ?_ _ | refine blk_drew ?_ | refine blk_alloc ?_ _)); refine blk_far ?_ NB719_721.out _; (with_reducible repeat (first | refine blk_drewN ?_ _ | refine blk_drew ?_ | refine blk_alloc ?_ _)); refine blk_far ?_ NB719_721.out _; (with_reducible repeat (first | refine blk_drewN ?_ _ | refine blk_drew ?_ | refine blk_alloc ?_ _)); exact BK719.out⟩, ⟨by repeat (first | (with_reducible first | exact HB.out | apply below_alloc | apply pw_below_drewN | apply below_drew1 | refine below_set ?_ GE712.out | refine below_set ?_ GE713.out | refine below_set ?_ GE714.out | refine below_set ?_ GE719.out | refine below_set ?_ GE721.out) | exact HB.out)⟩⟩
                        · rw [if_neg c41] at H
                          have c41b0 : (((rd_T29 x715001_1 x14_4).f0) == x720000_15) = false := beq_eq_false_iff_ne.mpr c41
                          have c41b1 : (((rd_T29 x715001_1 x14_4).f0) != x720000_15) = true := bne_iff_ne.mpr c41
                          have H' := Aside0.mk H
                          clear H
                          have hnb71 := NB714_712.out
                          have hnc71 := NB712_714.out
                          have hnb72 := NB714_713.out
                          have hnc72 := NB713_714.out
                          have hnb73 := NB714_719.out
                          have hnc73 := NB719_714.out
                          have hcz74_0 : wr.cell? ⟨gb714, 0, none⟩ = some (.int .i64 20) := (blk_cell BK714.out 0).trans rfl
                          have hcz74_1 : wr.cell? ⟨gb714, 1, none⟩ = some (u715001) := (blk_cell BK714.out 1).trans rfl
                          have hfz74_0 := blk_frozen BK714.out 0
                          have hfz74_1 := blk_frozen BK714.out 1
                          obtain ⟨Ao75, co75, eo75⟩ := Kd.R_slice HO_715001.out
                          subst eo75
                          have p720 : 0 ≤ (x14_4 : Int) := of_decide_eq_true (by first | (with_reducible assumption) | assumption)
                          have q720 : x14_4 < (x715001_1.length : Int) := of_decide_eq_true (by first | (with_reducible assumption) | assumption)
                          obtain ⟨ad720, e720, hx720_0, hx720_1, hx720_2, hx720_3⟩ := at_T29 (Kd.R_reads' HO_715001.out).2.2 x14_4 p720 q720
                          cases e720
                          replace p720 := eq_true p720
                          replace q720 := eq_true q720
                          go_wp2_with (first | ((with_reducible refine gate_dst (N := 15) rfl ?_); refine box_event ?hg (N := 15) ?hd (cs := #[.int .i64 0, .int .i64 0, .int .i64 0, .int .i64 0]) (t := 29) ?hr ?_; (case hd => rfl); (case hg => rfl); (case hr => first | (go_simp; done) | (go_simp; rfl)); intro gb721 hg w76 hbox hb; have n0_ := Aside0.mk (Kd.R_below (Kd.R_elderB (by (with_reducible repeat (first | apply Kd.R_alloc | apply Kd.R_drewN | apply Kd.R_drew)); exact HO_715001.out) gb721 (Nat.le_of_eq hg.symm)) hb); have n1_ := Aside0.mk (blk_below (g := gb712) (o := .cells #[.int .i64 0, .slice none 0 0] 25 (0, 0)) (by (with_reducible repeat (first | refine blk_drewN ?_ _ | refine blk_drew ?_ | refine blk_alloc ?_ _)); exact BK712.out) hb); have n2_ := Aside0.mk (blk_below (g := gb713) (o := .cells #[.int .i64 0, .int .i64 0, .int .i64 0, .int .i64 0, .int .i64 0, .int .i64 0, .int .i64 0, .int .i64 0, .int .i64 0, .slice none 0 0] 60 (0, 0)) (by (with_reducible repeat (first | refine blk_drewN ?_ _ | refine blk_drew ?_ | refine blk_alloc ?_ _)); exact BK713.out) hb); have n3_ := Aside0.mk (blk_below (g := gb714) (o := .cells #[.int .i64 20, .slice (some ad720) x715001_1.length co75] 25 (0, 0)) (by (with_reducible repeat (first | refine blk_drewN ?_ _ | refine blk_drew ?_ | refine blk_alloc ?_ _)); exact BK714.out) hb); have n4_ := Aside0.mk (blk_below (g := gb719) (o := .cells #[.int .i64 x720000_15, .int .i64 x720001_15, .int .i64 x720002_15, .int .i64 x720003_15] 29 (0, 0)) (by (with_reducible repeat (first | refine blk_drewN ?_ _ | refine blk_drew ?_ | refine blk_alloc ?_ _)); exact BK719.out) hb); have n5_ := Aside0.mk (below_step (by repeat (first | (with_reducible first | exact HB.out | apply below_alloc | apply pw_below_drewN | apply below_drew1 | refine below_set ?_ GE712.out | refine below_set ?_ GE713.out | refine below_set ?_ GE714.out | refine below_set ?_ GE719.out) | exact HB.out)) hb); have n6_ := Aside0.mk (hbox); have n7_ := Aside0.mk ((by rw [hg]; exact (below_size (by repeat (first | (with_reducible first | exact HB.out | apply below_alloc | apply pw_below_drewN | apply below_drew1 | refine below_set ?_ GE712.out | refine below_set ?_ GE713.out | refine below_set ?_ GE714.out | refine below_set ?_ GE719.out) | exact HB.out))) : w.heap.size ≤ gb721)); have n8_ := Aside0.mk ((by rw [hg]; exact (below_size (by repeat (first | (with_reducible first | exact HB.out | apply below_alloc | apply pw_below_drewN | apply below_drew1 | refine below_set ?_ GE712.out | refine below_set ?_ GE713.out | refine below_set ?_ GE714.out | refine below_set ?_ GE719.out) | exact HB.out))) : w.heap.size ≤ gb721)); have n9_ := Aside0.mk ((by rw [hg]; exact Nat.ne_of_lt (blk_lt (g := gb712) (o := .cells #[.int .i64 0, .slice none 0 0] 25 (0, 0)) (by (with_reducible repeat (first | refine blk_drewN ?_ _ | refine blk_drew ?_ | refine blk_alloc ?_ _)); exact BK712.out)) : gb712 ≠ gb721)); have n10_ := Aside0.mk ((by rw [hg]; exact Nat.ne_of_gt (blk_lt (g := gb712) (o := .cells #[.int .i64 0, .slice none 0 0] 25 (0, 0)) (by (with_reducible repeat (first | refine blk_drewN ?_ _ | refine blk_drew ?_ | refine blk_alloc ?_ _)); exact BK712.out)) : gb721 ≠ gb712)); have n11_ := Aside0.mk ((by rw [hg]; exact Nat.ne_of_lt (blk_lt (g := gb713) (o := .cells #[.int .i64 0, .int .i64 0, .int .i64 0, .int .i64 0, .int .i64 0, .int .i64 0, .int .i64 0, .int .i64 0, .int .i64 0, .slice none 0 0] 60 (0, 0)) (by (with_reducible repeat (first | refine blk_drewN ?_ _ | refine blk_drew ?_ | refine blk_alloc ?_ _)); exact BK713.out)) : gb713 ≠ gb721)); have n12_ := Aside0.mk ((by rw [hg]; exact Nat.ne_of_gt (blk_lt (g := gb713) (o := .cells #[.int .i64 0, .int .i64 0, .int .i64 0, .int .i64 0, .int .i64 0, .int .i64 0, .int .i64 0, .int .i64 0, .int .i64 0, .slice none 0 0] 60 (0, 0)) (by (with_reducible repeat (first | refine blk_drewN ?_ _ | refine blk_drew ?_ | refine blk_alloc ?_ _)); exact BK713.out)) : gb721 ≠ gb713)); have n13_ := Aside0.mk ((by rw [hg]; exact Nat.ne_of_lt (blk_lt (g := gb714) (o := .cells #[.int .i64 20, .slice (some ad720) x715001_1.length co75] 25 (0, 0)) (by (with_reducible repeat (first | refine blk_drewN ?_ _ | refine blk_drew ?_ | refine blk_alloc ?_ _)); exact BK714.out)) : gb714 ≠ gb721)); have n14_ := Aside0.mk ((by rw [hg]; exact Nat.ne_of_gt (blk_lt (g := gb714) (o := .cells #[.int .i64 20, .slice (some ad720) x715001_1.length co75] 25 (0, 0)) (by (with_reducible repeat (first | refine blk_drewN ?_ _ | refine blk_drew ?_ | refine blk_alloc ?_ _)); exact BK714.out)) : gb721 ≠ gb714)); have n15_ := Aside0.mk ((by rw [hg]; exact Nat.ne_of_lt (blk_lt (g := gb719) (o := .cells #[.int .i64 x720000_15, .int .i64 x720001_15, .int .i64 x720002_15, .int .i64 x720003_15] 29 (0, 0)) (by (with_reducible repeat (first | refine blk_drewN ?_ _ | refine blk_drew ?_ | refine blk_alloc ?_ _)); exact BK719.out)) : gb719 ≠ gb721)); have n16_ := Aside0.mk ((by rw [hg]; exact Nat.ne_of_gt (blk_lt (g := gb719) (o := .cells #[.int .i64 x720000_15, .int .i64 x720001_15, .int .i64 x720002_15, .int .i64 x720003_15] 29 (0, 0)) (by (with_reducible repeat (first | refine blk_drewN ?_ _ | refine blk_drew ?_ | refine blk_alloc ?_ _)); exact BK719.out)) : gb721 ≠ gb719)); clear HO_715001; clear BK712; clear BK713; clear BK714; clear BK719; clear HB; have HO_715001 := n0_; have BK712 := n1_; have BK713 := n2_; have BK714 := n3_; have BK719 := n4_; have HB := n5_; have BK721 := n6_; have GW721 := n7_; have GE721 := n8_; have NB712_721 := n9_; have NB721_712 := n10_; have NB713_721 := n11_; have NB721_713 := n12_; have NB714_721 := n13_; have NB721_714 := n14_; have NB719_721 := n15_; have NB721_719 := n16_; clear n0_ n1_ n2_ n3_ n4_ n5_ n6_ n7_ n8_ n9_ n10_ n11_ n12_ n13_ n14_ n15_ n16_; clear hb hbox hg; have hnb77 := NB721_712.out; have hnc77 := NB712_721.out; have hnb78 := NB721_713.out; have hnc78 := NB713_721.out; have hnb79 := NB721_714.out; have hnc79 := NB714_721.out; have hnb80 := NB721_719.out; have hnc80 := NB719_721.out; have hcz81_0 : w76.cell? ⟨gb721, 0, none⟩ = some (.int .i64 0) := (blk_cell BK721.out 0).trans rfl; have hcz81_1 : w76.cell? ⟨gb721, 1, none⟩ = some (.int .i64 0) := (blk_cell BK721.out 1).trans rfl; have hcz81_2 : w76.cell? ⟨gb721, 2, none⟩ = some (.int .i64 0) := (blk_cell BK721.out 2).trans rfl; have hcz81_3 : w76.cell? ⟨gb721, 3, none⟩ = some (.int .i64 0) := (blk_cell BK721.out 3).trans rfl; have hfz81_0 := blk_frozen BK721.out 0; have hfz81_1 := blk_frozen BK721.out 1; have hfz81_2 := blk_frozen BK721.out 2; have hfz81_3 := blk_frozen BK721.out 3; have hnb82 := NB719_712.out; have hnc82 := NB712_719.out; have hnb83 := NB719_713.out; have hnc83 := NB713_719.out; have hcz84_0 : w76.cell? ⟨gb719, 0, none⟩ = some (.int .i64 x720000_15) := (blk_cell BK719.out 0).trans rfl; have hcz84_1 : w76.cell? ⟨gb719, 1, none⟩ = some (.int .i64 x720001_15) := (blk_cell BK719.out 1).trans rfl; have hcz84_2 : w76.cell? ⟨gb719, 2, none⟩ = some (.int .i64 x720002_15) := (blk_cell BK719.out 2).trans rfl; have hcz84_3 : w76.cell? ⟨gb719, 3, none⟩ = some (.int .i64 x720003_15) := (blk_cell BK719.out 3).trans rfl; have hfz84_0 := blk_frozen BK719.out 0; have hfz84_1 := blk_frozen BK719.out 1; have hfz84_2 := blk_frozen BK719.out 2; have hfz84_3 := blk_frozen BK719.out 3))
                          go_roundg k4
                          case measure => have := HK1.out; have := HJ9.out; have := HJ15.out; have := HK4.out; omega
                          case rel => exact ⟨(false), (wrap64 (x14_4 + 1)), (by first | rfl | (simp; done) | (simp [*]; done)), (by first | rfl | (simp; done) | (simp [*]; done)), H', ⟨by have := HK1.out; have := HJ9.out; have := HJ15.out; have := HK4.out; omega⟩, ⟨by (with_reducible repeat (first | apply Kd.R_alloc | apply Kd.R_drewN | apply Kd.R_drew)); exact Kd.R_mono (Kd.R_far (p := ⟨gb721, 3, none⟩) (Kd.R_far (p := ⟨gb721, 2, none⟩) (Kd.R_far (p := ⟨gb721, 1, none⟩) (Kd.R_far (p := ⟨gb721, 0, none⟩) (Kd.R_mono HO_715001.out (fun k_ hk => (⟨hk, hk.2⟩ : _ ∧ k_ ≠ gb721))) (fun _ hk => hk.2) (.int .i64 ((rd_T29 x715001_1 x14_4).f0))) (fun _ hk => hk.2) (.int .i64 ((rd_T29 x715001_1 x14_4).f1))) (fun _ hk => hk.2) (.int .i64 ((rd_T29 x715001_1 x14_4).f2))) (fun _ hk => hk.2) (.int .i64 ((rd_T29 x715001_1 x14_4).f3))) (fun _ hk => hk.1.1)⟩, ⟨by (with_reducible repeat (first | refine blk_drewN ?_ _ | refine blk_drew ?_ | refine blk_alloc ?_ _)); refine blk_far ?_ NB712_721.out _; (with_reducible repeat (first | refine blk_drewN ?_ _ | refine blk_drew ?_ | refine blk_alloc ?_ _)); refine blk_far ?_ NB712_721.out _; (with_reducible repeat (first | refine blk_drewN ?_ _ | refine blk_drew ?_ | refine blk_alloc ?_ _)); refine blk_far ?_ NB712_721.out _; (with_reducible repeat (first | refine blk_drewN ?_ _ | refine blk_drew ?_ | refine blk_alloc ?_ _)); refine blk_far ?_ NB712_721.out _; (with_reducible repeat (first | refine blk_drewN ?_ _ | refine blk_drew ?_ | refine blk_alloc ?_ _)); exact BK712.out⟩, ⟨by (with_reducible repeat (first | refine blk_drewN ?_ _ | refine blk_drew ?_ | refine blk_alloc ?_ _)); refine blk_far ?_ NB713_721.out _; (with_reducible repeat (first | refine blk_drewN ?_ _ | refine blk_drew ?_ | refine blk_alloc ?_ _)); refine blk_far ?_ NB713_721.out _; (with_reducible repeat (first | refine blk_drewN ?_ _ | refine blk_drew ?_ | refine blk_alloc ?_ _)); refine blk_far ?_ NB713_721.out _; (with_reducible repeat (first | refine blk_drewN ?_ _ | refine blk_drew ?_ | refine blk_alloc ?_ _)); refine blk_far ?_ NB713_721.out _; (with_reducible repeat (first | refine blk_drewN ?_ _ | refine blk_drew ?_ | refine blk_alloc ?_ _)); exact BK713.out⟩, ⟨by (with_reducible repeat (first | refine blk_drewN ?_ _ | refine blk_drew ?_ | refine blk_alloc ?_ _)); refine blk_far ?_ NB714_721.out _; (with_reducible repeat (first | refine blk_drewN ?_ _ | refine blk_drew ?_ | refine blk_alloc ?_ _)); refine blk_far ?_ NB714_721.out _; (with_reducible repeat (first | refine blk_drewN ?_ _ | refine blk_drew ?_ | refine blk_alloc ?_ _)); refine blk_far ?_ NB714_721.out _; (with_reducible repeat (first | refine blk_drewN ?_ _ | refine blk_drew ?_ | refine blk_alloc ?_ _)); refine blk_far ?_ NB714_721.out _; (with_reducible repeat (first | refine blk_drewN ?_ _ | refine blk_drew ?_ | refine blk_alloc ?_ _)); exact BK714.out⟩, ⟨by (with_reducible repeat (first | refine blk_drewN ?_ _ | refine blk_drew ?_ | refine blk_alloc ?_ _)); refine blk_far ?_ NB719_721.out _; (with_reducible repeat (first | refine blk_drewN ?_ _ | refine blk_drew ?_ | refine blk_alloc ?_ _)); refine blk_far ?_ NB719_721.out _; (with_reducible repeat (first | refine blk_drewN ?_ _ | refine blk_drew ?_ | refine blk_alloc ?_ _)); refine blk_far ?_ NB719_721.out _; (with_reducible repeat (first | refine blk_drewN ?_ _ | refine blk_drew ?_ | refine blk_alloc ?_ _)); refine blk_far ?_ NB719_721.out _; (with_reducible repeat (first | refine blk_drewN ?_ _ | refine blk_drew ?_ | refine blk_alloc ?_ _)); exact BK719.out⟩, ⟨by repeat (first | (with_reducible first | exact HB.out | apply below_alloc | apply pw_below_drewN | apply below_drew1 | refine below_set ?_ GE712.out | refine below_set ?_ GE713.out | refine below_set ?_ GE714.out | refine below_set ?_ GE719.out | refine below_set ?_ GE721.out) | exact HB.out)⟩⟩
                    · rw [if_neg c27] at H
                      have c27b0 : decide (x14_4 < (x715001_1.length : Int)) = false := decide_eq_false c27
                      clear c27
                      by_cases c85 : x13_4 = true
                      · subst c85
                        have H1 : (L28_made.l0 k4 l0 a1 a2 (wrap64 (x9_1 + (Int.tmod t718 4))) (wrap64 (x10_1 + 1)) 20 x715001_1) = some (r1, r2, r3, r4, r5, r6, r7, r8, r9, r10, r11, r12) := by rw [if_pos rfl] at H; exact H
                        clear H
                        have H := H1
                        clear H1
                        have H' := Aside0.mk H
                        clear H
                        have hnb86 := NB714_712.out
                        have hnc86 := NB712_714.out
                        have hnb87 := NB714_713.out
                        have hnc87 := NB713_714.out
                        have hnb88 := NB714_719.out
                        have hnc88 := NB719_714.out
                        have hcz89_0 : wr.cell? ⟨gb714, 0, none⟩ = some (.int .i64 20) := (blk_cell BK714.out 0).trans rfl
                        have hcz89_1 : wr.cell? ⟨gb714, 1, none⟩ = some (u715001) := (blk_cell BK714.out 1).trans rfl
                        have hfz89_0 := blk_frozen BK714.out 0
                        have hfz89_1 := blk_frozen BK714.out 1
                        obtain ⟨Ao90, co90, eo90⟩ := Kd.R_slice HO_715001.out
                        subst eo90
                        go_wp2
                        go_roundg k4
                        case measure => have := HK1.out; have := HJ9.out; have := HJ15.out; have := HK4.out; omega
                        case rel => exact ⟨((wrap64 (x9_1 + (Int.tmod t718 4)))), (wrap64 (x10_1 + 1)), (x715001_1), (.slice Ao90 x715001_1.length co90), (by first | rfl | (simp; done) | (simp [*]; done)), (by first | rfl | (simp; done) | (simp [*]; done)), H', ⟨by have := HK1.out; have := HJ9.out; have := HJ15.out; have := HK4.out; omega⟩, ⟨by (with_reducible repeat (first | apply Kd.R_alloc | apply Kd.R_drewN | apply Kd.R_drew)); exact Kd.R_mono HO_715001.out (fun _ hk => trivial)⟩, ⟨by (with_reducible repeat (first | refine blk_drewN ?_ _ | refine blk_drew ?_ | refine blk_alloc ?_ _)); exact BK712.out⟩, ⟨by (with_reducible repeat (first | refine blk_drewN ?_ _ | refine blk_drew ?_ | refine blk_alloc ?_ _)); exact BK713.out⟩, ⟨by (with_reducible repeat (first | refine blk_drewN ?_ _ | refine blk_drew ?_ | refine blk_alloc ?_ _)); exact BK714.out⟩, ⟨by repeat (first | (with_reducible first | exact HB.out | apply below_alloc | apply pw_below_drewN | apply below_drew1 | refine below_set ?_ GE712.out | refine below_set ?_ GE713.out | refine below_set ?_ GE714.out | refine below_set ?_ GE719.out) | exact HB.out)⟩⟩
                      · replace c85 := Bool.eq_false_iff.mpr c85
                        subst c85
                        have H1 : (if x715001_1.length < 4398046511104 then (L28_made.l0 k4 l0 a1 a2 (wrap64 (x9_1 + (Int.tmod t718 4))) (wrap64 (x10_1 + 1)) 20 (x715001_1 ++ [(⟨x720000_15, x720001_15, x720002_15, x720003_15⟩ : S29)])) else (none)) = some (r1, r2, r3, r4, r5, r6, r7, r8, r9, r10, r11, r12) := by rw [if_neg (show ¬ (false = true) by decide)] at H; exact H
                        clear H
                        have H := H1
                        clear H1
                        by_cases c91 : x715001_1.length < 4398046511104
                        rotate_left
                        · rw [if_neg c91] at H
                          exact absurd H (by simp)
                        rw [if_pos c91] at H
                        have LMc91 := Aside0.mk c91
                        clear c91
                        obtain ⟨y722, hy722⟩ : ∃ y_ : List (S29), y_ = (x715001_1 ++ [(⟨x720000_15, x720001_15, x720002_15, x720003_15⟩ : S29)]) := ⟨_, rfl⟩
                        replace H : (L28_made.l0 k4 l0 a1 a2 (wrap64 (x9_1 + (Int.tmod t718 4))) (wrap64 (x10_1 + 1)) 20 y722) = some (r1, r2, r3, r4, r5, r6, r7, r8, r9, r10, r11, r12) := by first | (rw [hy722]; with_reducible exact H) | (have H2_ := (Option.bind_some _ _).symm.trans H; rw [hy722]; with_reducible exact H2_) | (have H2_ := (Option.bind_some _ _).symm.trans H; with_reducible exact H2_) | with_reducible exact H | (rw [hy722]; exact H) | exact H
                        have Ny722 := Aside0.mk hy722
                        clear hy722
                        have H' := Aside0.mk H
                        clear H
                        have hnb92 := NB714_712.out
                        have hnc92 := NB712_714.out
                        have hnb93 := NB714_713.out
                        have hnc93 := NB713_714.out
                        have hnb94 := NB714_719.out
                        have hnc94 := NB719_714.out
                        have hcz95_0 : wr.cell? ⟨gb714, 0, none⟩ = some (.int .i64 20) := (blk_cell BK714.out 0).trans rfl
                        have hcz95_1 : wr.cell? ⟨gb714, 1, none⟩ = some (u715001) := (blk_cell BK714.out 1).trans rfl
                        have hfz95_0 := blk_frozen BK714.out 0
                        have hfz95_1 := blk_frozen BK714.out 1
                        obtain ⟨Ao96, co96, eo96⟩ := Kd.R_slice HO_715001.out
                        subst eo96
                        have hnb97 := NB719_712.out
                        have hnc97 := NB712_719.out
                        have hnb98 := NB719_713.out
                        have hnc98 := NB713_719.out
                        have hcz99_0 : wr.cell? ⟨gb719, 0, none⟩ = some (.int .i64 x720000_15) := (blk_cell BK719.out 0).trans rfl
                        have hcz99_1 : wr.cell? ⟨gb719, 1, none⟩ = some (.int .i64 x720001_15) := (blk_cell BK719.out 1).trans rfl
                        have hcz99_2 : wr.cell? ⟨gb719, 2, none⟩ = some (.int .i64 x720002_15) := (blk_cell BK719.out 2).trans rfl
                        have hcz99_3 : wr.cell? ⟨gb719, 3, none⟩ = some (.int .i64 x720003_15) := (blk_cell BK719.out 3).trans rfl
                        have hfz99_0 := blk_frozen BK719.out 0
                        have hfz99_1 := blk_frozen BK719.out 1
                        have hfz99_2 := blk_frozen BK719.out 2
                        have hfz99_3 := blk_frozen BK719.out 3
                        go_wp2_with (first | ((with_reducible refine gate_builtin (b := .append) (xs := #[.tmp 95, .tmp 97]) rfl ?_); at_builtin; refine Kd.R_append k29 (w0 := w) w.heap.size rfl (.tmp 95) (.tmp 97) 23 29 (.agg #[(.int .i64 0), (.int .i64 0), (.int .i64 0), (.int .i64 0)]) 32 rfl Try.underlying23 info29 rfl (by decide) (by omega) (.slice Ao96 x715001_1.length co96) x715001_1 (⟨x720000_15, x720001_15, x720002_15, x720003_15⟩ : S29) [.int .i64 x720000_15, .int .i64 x720001_15, .int .i64 x720002_15, .int .i64 x720003_15] (fun k_ => k_ ≠ gb719) (fun _ => False) rfl rfl ?aP (fun _ hk => hk.elim) ?aF ?aO ?aB ?aS ?aL ?_; (case aP => exact k29_mkM _ _ _ (⟨x720000_15, x720001_15, x720002_15, x720003_15⟩ : S29)); (case aB => exact (by repeat (first | (with_reducible first | exact HB.out | apply below_alloc | apply pw_below_drewN | apply below_drew1 | refine below_set ?_ GE712.out | refine below_set ?_ GE713.out | refine below_set ?_ GE714.out | refine below_set ?_ GE719.out) | exact HB.out))); (case aF => exact (fun k_ hk => Kd.freshB (g := gb719) (o := .cells #[.int .i64 x720000_15, .int .i64 x720001_15, .int .i64 x720002_15, .int .i64 x720003_15] 29 (0, 0)) (by (with_reducible repeat (first | refine blk_drewN ?_ _ | refine blk_drew ?_ | refine blk_alloc ?_ _)); exact BK719.out) k_ hk)); (case aO => exact (by (with_reducible repeat (first | apply Kd.R_alloc | apply Kd.R_drewN | apply Kd.R_drew)); exact HO_715001.out)); (case aS => exact (below_size (by repeat (first | (with_reducible first | exact HB.out | apply below_alloc | apply pw_below_drewN | apply below_drew1 | refine below_set ?_ GE712.out | refine below_set ?_ GE713.out | refine below_set ?_ GE714.out | refine below_set ?_ GE719.out) | exact HB.out)))); (case aL => have := LMc91.out; omega); intro v723 w100 ho hb hg hat; rw [← Ny722.out] at ho; have n0_ := Aside0.mk (blk_grown (g := gb712) (o := .cells #[.int .i64 0, .slice none 0 0] 25 (0, 0)) (by (with_reducible repeat (first | refine blk_drewN ?_ _ | refine blk_drew ?_ | refine blk_alloc ?_ _)); exact BK712.out) hg (Kd.R_ne HO_715001.out BK712.out (by decide))); have n1_ := Aside0.mk (blk_grown (g := gb713) (o := .cells #[.int .i64 0, .int .i64 0, .int .i64 0, .int .i64 0, .int .i64 0, .int .i64 0, .int .i64 0, .int .i64 0, .int .i64 0, .slice none 0 0] 60 (0, 0)) (by (with_reducible repeat (first | refine blk_drewN ?_ _ | refine blk_drew ?_ | refine blk_alloc ?_ _)); exact BK713.out) hg (Kd.R_ne HO_715001.out BK713.out (by decide))); have n2_ := Aside0.mk (blk_grown (g := gb714) (o := .cells #[.int .i64 20, .slice Ao96 x715001_1.length co96] 25 (0, 0)) (by (with_reducible repeat (first | refine blk_drewN ?_ _ | refine blk_drew ?_ | refine blk_alloc ?_ _)); exact BK714.out) hg (Kd.R_ne HO_715001.out BK714.out (by decide))); have n3_ := Aside0.mk (blk_grown (g := gb719) (o := .cells #[.int .i64 x720000_15, .int .i64 x720001_15, .int .i64 x720002_15, .int .i64 x720003_15] 29 (0, 0)) (by (with_reducible repeat (first | refine blk_drewN ?_ _ | refine blk_drew ?_ | refine blk_alloc ?_ _)); exact BK719.out) hg (Kd.R_away HO_715001.out (fun _ hk => hk))); have n4_ := Aside0.mk (hb); have n5_ := Aside0.mk (ho); clear BK712; clear BK713; clear BK714; clear BK719; clear HB; clear HO_715001; have BK712 := n0_; have BK713 := n1_; have BK714 := n2_; have BK719 := n3_; have HB := n4_; have HO724 := n5_; clear n0_ n1_ n2_ n3_ n4_ n5_; clear ho hb hg hat; obtain ⟨Ao101, co101, eo101⟩ := Kd.R_slice HO724.out; subst eo101; have hcz102_0 : w100.cell? ⟨gb714, 0, none⟩ = some (.int .i64 20) := (blk_cell BK714.out 0).trans rfl; have hcz102_1 : w100.cell? ⟨gb714, 1, none⟩ = some (.slice Ao96 x715001_1.length co96) := (blk_cell BK714.out 1).trans rfl; have hfz102_0 := blk_frozen BK714.out 0; have hfz102_1 := blk_frozen BK714.out 1))
                        go_roundg k4
                        case measure => have := HK1.out; have := HJ9.out; have := HJ15.out; have := HK4.out; omega
                        case rel => exact ⟨((wrap64 (x9_1 + (Int.tmod t718 4)))), (wrap64 (x10_1 + 1)), (y722), (.slice Ao101 y722.length co101), (by first | rfl | (simp; done) | (simp [*]; done)), (by first | rfl | (simp; done) | (simp [*]; done)), H', ⟨by have := HK1.out; have := HJ9.out; have := HJ15.out; have := HK4.out; omega⟩, ⟨by (with_reducible repeat (first | apply Kd.R_alloc | apply Kd.R_drewN | apply Kd.R_drew)); exact Kd.R_mono (Kd.R_far (p := ⟨gb714, 1, none⟩) (Kd.R_types HO724.out BK714.out (by decide)) (fun _ hk => hk.2) (.slice Ao101 y722.length co101)) (fun _ hk => trivial)⟩, ⟨by (with_reducible repeat (first | refine blk_drewN ?_ _ | refine blk_drew ?_ | refine blk_alloc ?_ _)); refine blk_far ?_ NB712_714.out _; (with_reducible repeat (first | refine blk_drewN ?_ _ | refine blk_drew ?_ | refine blk_alloc ?_ _)); exact BK712.out⟩, ⟨by (with_reducible repeat (first | refine blk_drewN ?_ _ | refine blk_drew ?_ | refine blk_alloc ?_ _)); refine blk_far ?_ NB713_714.out _; (with_reducible repeat (first | refine blk_drewN ?_ _ | refine blk_drew ?_ | refine blk_alloc ?_ _)); exact BK713.out⟩, ⟨by (with_reducible repeat (first | refine blk_drewN ?_ _ | refine blk_drew ?_ | refine blk_alloc ?_ _)); refine blk_put (cs := #[.int .i64 20, .slice Ao96 x715001_1.length co96]) ?_ 1 _ rfl; (with_reducible repeat (first | refine blk_drewN ?_ _ | refine blk_drew ?_ | refine blk_alloc ?_ _)); exact BK714.out⟩, ⟨by repeat (first | (with_reducible first | exact HB.out | apply below_alloc | apply pw_below_drewN | apply below_drew1 | refine below_set ?_ GE712.out | refine below_set ?_ GE713.out | refine below_set ?_ GE714.out | refine below_set ?_ GE719.out) | exact HB.out)⟩⟩
          · replace c12 := Bool.eq_false_iff.mpr c12
            subst c12
            have H1 : ((K_Mod.f a1 1048576).bind fun t715 => ((K_Mod.f a2 40).bind fun t716 => (some (20, x715001_1, wrap64 (1 + (Int.tmod t715 3)), Int.tmod (wrap64 (Int.tdiv t715 3)) 4, Int.tmod (wrap64 (Int.tdiv t715 12)) 16, wrap64 (x9_1 + t716), wrap64 (1 + (Int.tmod (wrap64 (Int.tdiv t715 192)) 40)), 0, 500, Int.tmod (wrap64 (Int.tdiv t715 8192)) 8, 2, ([] : List (S29)))))) = some (r1, r2, r3, r4, r5, r6, r7, r8, r9, r10, r11, r12) := by rw [if_neg (show ¬ (false = true) by decide)] at H; exact H
            clear H
            have H := H1
            clear H1
            replace H := Option.bind_eq_some_iff.mp H
            obtain ⟨t715, A1030, H⟩ := H
            replace H : ((K_Mod.f a2 40).bind fun t716 => (some (20, x715001_1, wrap64 (1 + (Int.tmod t715 3)), Int.tmod (wrap64 (Int.tdiv t715 3)) 4, Int.tmod (wrap64 (Int.tdiv t715 12)) 16, wrap64 (x9_1 + t716), wrap64 (1 + (Int.tmod (wrap64 (Int.tdiv t715 192)) 40)), 0, 500, Int.tmod (wrap64 (Int.tdiv t715 8192)) 8, 2, ([] : List (S29))))) = some (r1, r2, r3, r4, r5, r6, r7, r8, r9, r10, r11, r12) := H
            have A103 := Aside0.mk A1030
            clear A1030
            replace H := Option.bind_eq_some_iff.mp H
            obtain ⟨t716, A1040, H⟩ := H
            replace H : (some (20, x715001_1, wrap64 (1 + (Int.tmod t715 3)), Int.tmod (wrap64 (Int.tdiv t715 3)) 4, Int.tmod (wrap64 (Int.tdiv t715 12)) 16, wrap64 (x9_1 + t716), wrap64 (1 + (Int.tmod (wrap64 (Int.tdiv t715 192)) 40)), 0, 500, Int.tmod (wrap64 (Int.tdiv t715 8192)) 8, 2, ([] : List (S29)))) = some (r1, r2, r3, r4, r5, r6, r7, r8, r9, r10, r11, r12) := H
            have A104 := Aside0.mk A1040
            clear A1040
            simp only [Option.some.injEq, Prod.mk.injEq] at H
            obtain ⟨rfl, rfl, rfl, rfl, rfl, rfl, rfl, rfl, rfl, rfl, rfl, rfl⟩ := H
            try go_wp2_with (first | ((with_reducible refine gate_callee (f := 31) rfl ?_); refine goesL_ (some 101) rfl rfl Try.func31 (by kernel_rfl) rfl #[.int .i64 a1, .int .i64 1048576] rfl (by (try simp only [List.map_toArray, List.map_cons, List.map_nil]); first | done | rfl | (simp only [List.length_drop, List.length_take]; rfl)) ?_; (with_reducible refine (K_Mod.calls a1 1048576 t715 _ A103.out).mono ?_); rintro e w' ⟨rfl, ⟨nd, rfl⟩⟩; refine ⟨_, rfl, ?_⟩; (try (rw [drewN_self wc]; generalize hq_ : World.drewN wc _ = wc; have n0_ : Aside0 (Kd.R k29 29 wc w.heap.size (fun _ => True) u715001 x715001_1) := ⟨by rw [← hq_]; exact (by (with_reducible repeat (first | apply Kd.R_alloc | apply Kd.R_drewN | apply Kd.R_drew)); exact HO_715001.out)⟩; have n1_ : Aside0 (wc.heap[gb712]? = some (.cells #[.int .i64 0, .slice none 0 0] 25 (0, 0))) := ⟨by rw [← hq_]; exact (by (with_reducible repeat (first | refine blk_drewN ?_ _ | refine blk_drew ?_ | refine blk_alloc ?_ _)); exact BK712.out)⟩; have n2_ : Aside0 (wc.heap[gb713]? = some (.cells #[.int .i64 0, .int .i64 0, .int .i64 0, .int .i64 0, .int .i64 0, .int .i64 0, .int .i64 0, .int .i64 0, .int .i64 0, .slice none 0 0] 60 (0, 0))) := ⟨by rw [← hq_]; exact (by (with_reducible repeat (first | refine blk_drewN ?_ _ | refine blk_drew ?_ | refine blk_alloc ?_ _)); exact BK713.out)⟩; have n3_ : Aside0 (wc.heap[gb714]? = some (.cells #[.int .i64 20, u715001] 25 (0, 0))) := ⟨by rw [← hq_]; exact (by (with_reducible repeat (first | refine blk_drewN ?_ _ | refine blk_drew ?_ | refine blk_alloc ?_ _)); exact BK714.out)⟩; have n4_ : Aside0 (Below w.heap.size w wc) := ⟨by rw [← hq_]; exact (by repeat (first | (with_reducible first | exact HB.out | apply below_alloc | apply pw_below_drewN | apply below_drew1 | refine below_set ?_ GE712.out | refine below_set ?_ GE713.out | refine below_set ?_ GE714.out) | exact HB.out))⟩; clear HO_715001 BK712 BK713 BK714 HB hq_; have HO_715001 := n0_; have BK712 := n1_; have BK713 := n2_; have BK714 := n3_; have HB := n4_; clear n0_ n1_ n2_ n3_ n4_))))
            have n0_ := Aside0.mk (Kd.R_drew HO_715001.out)
            have n1_ := Aside0.mk (blk_drew BK712.out)
            have n2_ := Aside0.mk (blk_drew BK713.out)
            have n3_ := Aside0.mk (blk_drew BK714.out)
            have n4_ := Aside0.mk (below_drew1 HB.out)
            clear HO_715001
            clear BK712
            clear BK713
            clear BK714
            clear HB
            have HO_715001 := n0_
            have BK712 := n1_
            have BK713 := n2_
            have BK714 := n3_
            have HB := n4_
            clear n0_ n1_ n2_ n3_ n4_
            refine start_ (n := 24) (S := fun w' => w'.cell? ⟨gb714, 0, none⟩ = some (.int .i64 20) ∧ w'.cell? ⟨gb714, 1, none⟩ = some (u715001)) (ds := []) #[false, false, false, false, false, false, false, false, false, false, false, false, false, false, false, false, false, false, false, false, false, false, false, false] (by kernel_rfl) rfl rfl ⟨(blk_cell BK714.out 0).trans rfl, (blk_cell BK714.out 1).trans rfl⟩ (fun hHeld => ?_); refine with_tabW L28_made.tab20 L28_made.bits20 (fun HT_ HW_ => ?_)
            generalize wc.drew = w105 at HO_715001 BK712 BK713 BK714 HB hHeld ⊢
            refine pure_ (i := 1) (N := some 103) (v := ?_) (a' := ?_) #[false, true, false, false, false, false, false, false, false, false, false, false, false, false, false, false, false, false, false, false, false, false, false, false] rfl rfl (any_of HT_.out (by kernel_rfl)) (fun _ _ _ h => h) (Or.inl ⟨by rfl, ?_⟩) ?_ ?_
            rotate_left
            · intro w'
              go_simp
              with_reducible rfl
            rotate_left
            · simp only [Act.put, List.setIfInBounds_toArray, List.set_cons_zero, List.set_cons_succ, i64_w, i32_w]
              rfl
            refine pure_ (i := 2) (N := some 104) (v := ?_) (a' := ?_) #[false, true, true, false, false, false, false, false, false, false, false, false, false, false, false, false, false, false, false, false, false, false, false, false] rfl rfl (any_of HT_.out (by kernel_rfl)) (fun _ _ _ h => h) (Or.inl ⟨by rfl, ?_⟩) ?_ ?_
            rotate_left
            · intro w'
              go_simp
              with_reducible rfl
            rotate_left
            · simp only [Act.put, List.setIfInBounds_toArray, List.set_cons_zero, List.set_cons_succ, i64_w, i32_w]
              rfl
            refine pure_ (i := 3) (N := some 105) (v := ?_) (a' := ?_) #[false, true, true, true, false, false, false, false, false, false, false, false, false, false, false, false, false, false, false, false, false, false, false, false] rfl rfl (any_of HT_.out (by kernel_rfl)) (fun _ _ _ h => h) (Or.inl ⟨by rfl, ?_⟩) ?_ ?_
            rotate_left
            · intro w'
              go_simp
              with_reducible rfl
            rotate_left
            · simp only [Act.put, List.setIfInBounds_toArray, List.set_cons_zero, List.set_cons_succ, i64_w, i32_w]
              rfl
            refine pure_ (i := 4) (N := some 106) (v := ?_) (a' := ?_) #[false, true, true, true, true, false, false, false, false, false, false, false, false, false, false, false, false, false, false, false, false, false, false, false] rfl rfl (any_of HT_.out (by kernel_rfl)) (fun _ _ _ h => h) (Or.inl ⟨by rfl, ?_⟩) ?_ ?_
            rotate_left
            · intro w'
              go_simp
              with_reducible rfl
            rotate_left
            · simp only [Act.put, List.setIfInBounds_toArray, List.set_cons_zero, List.set_cons_succ, i64_w, i32_w]
              rfl
            refine pure_ (i := 5) (N := some 107) (v := ?_) (a' := ?_) #[false, true, true, true, true, true, false, false, false, false, false, false, false, false, false, false, false, false, false, false, false, false, false, false] rfl rfl (any_of HT_.out (by kernel_rfl)) (fun _ _ _ h => h) (Or.inl ⟨by rfl, ?_⟩) ?_ ?_
            rotate_left
            · intro w'
              go_simp
              with_reducible rfl
            rotate_left
            · simp only [Act.put, List.setIfInBounds_toArray, List.set_cons_zero, List.set_cons_succ, i64_w, i32_w]
              rfl
            refine pure_ (i := 6) (N := some 108) (v := ?_) (a' := ?_) #[false, true, true, true, true, true, true, false, false, false, false, false, false, false, false, false, false, false, false, false, false, false, false, false] rfl rfl (any_of HT_.out (by kernel_rfl)) (fun _ _ _ h => h) (Or.inl ⟨by rfl, ?_⟩) ?_ ?_
            rotate_left
            · intro w'
              go_simp
              with_reducible rfl
            rotate_left
            · simp only [Act.put, List.setIfInBounds_toArray, List.set_cons_zero, List.set_cons_succ, i64_w, i32_w]
              rfl
            refine pure_ (i := 7) (N := some 109) (v := ?_) (a' := ?_) #[false, true, true, true, true, true, true, true, false, false, false, false, false, false, false, false, false, false, false, false, false, false, false, false] rfl rfl (any_of HT_.out (by kernel_rfl)) (fun _ _ _ h => h) (Or.inl ⟨by rfl, ?_⟩) ?_ ?_
            rotate_left
            · intro w'
              go_simp
              with_reducible rfl
            rotate_left
            · simp only [Act.put, List.setIfInBounds_toArray, List.set_cons_zero, List.set_cons_succ, i64_w, i32_w]
              rfl
            refine pure_ (i := 8) (N := some 110) (v := ?_) (a' := ?_) #[false, true, true, true, true, true, true, true, true, false, false, false, false, false, false, false, false, false, false, false, false, false, false, false] rfl rfl (any_of HT_.out (by kernel_rfl)) (fun _ _ _ h => h) (Or.inl ⟨by rfl, ?_⟩) ?_ ?_
            rotate_left
            · intro w'
              go_simp
              with_reducible rfl
            rotate_left
            · simp only [Act.put, List.setIfInBounds_toArray, List.set_cons_zero, List.set_cons_succ, i64_w, i32_w]
              rfl
            refine pure_ (i := 9) (N := some 111) (v := ?_) (a' := ?_) #[false, true, true, true, true, true, true, true, true, true, false, false, false, false, false, false, false, false, false, false, false, false, false, false] rfl rfl (any_of HT_.out (by kernel_rfl)) (fun _ _ _ h => h) (Or.inl ⟨by rfl, ?_⟩) ?_ ?_
            rotate_left
            · intro w'
              go_simp
              with_reducible rfl
            rotate_left
            · simp only [Act.put, List.setIfInBounds_toArray, List.set_cons_zero, List.set_cons_succ, i64_w, i32_w]
              rfl
            refine pure_ (i := 10) (N := some 112) (v := ?_) (a' := ?_) #[false, true, true, true, true, true, true, true, true, true, true, false, false, false, false, false, false, false, false, false, false, false, false, false] rfl rfl (any_of HT_.out (by kernel_rfl)) (fun _ _ _ h => h) (Or.inl ⟨by rfl, ?_⟩) ?_ ?_
            rotate_left
            · intro w'
              go_simp
              with_reducible rfl
            rotate_left
            · simp only [Act.put, List.setIfInBounds_toArray, List.set_cons_zero, List.set_cons_succ, i64_w, i32_w]
              rfl
            refine pure_ (i := 11) (N := some 113) (v := ?_) (a' := ?_) #[false, true, true, true, true, true, true, true, true, true, true, true, false, false, false, false, false, false, false, false, false, false, false, false] rfl rfl (any_of HT_.out (by kernel_rfl)) (fun _ _ _ h => h) (Or.inl ⟨by rfl, ?_⟩) ?_ ?_
            rotate_left
            · intro w'
              go_simp
              with_reducible rfl
            rotate_left
            · simp only [Act.put, List.setIfInBounds_toArray, List.set_cons_zero, List.set_cons_succ, i64_w, i32_w]
              rfl
            refine pure_ (i := 14) (N := some 116) (v := ?_) (a' := ?_) #[false, true, true, true, true, true, true, true, true, true, true, true, false, false, true, false, false, false, false, false, false, false, false, false] rfl rfl (any_of HT_.out (by kernel_rfl)) (fun _ _ _ h => h) (Or.inl ⟨by rfl, ?_⟩) ?_ ?_
            rotate_left
            · intro w'
              go_simp
              with_reducible rfl
            rotate_left
            · simp only [Act.put, List.setIfInBounds_toArray, List.set_cons_zero, List.set_cons_succ, i64_w, i32_w]
              rfl
            refine pure_ (i := 15) (N := some 117) (v := ?_) (a' := ?_) #[false, true, true, true, true, true, true, true, true, true, true, true, false, false, true, true, false, false, false, false, false, false, false, false] rfl rfl (any_of HT_.out (by kernel_rfl)) (fun _ _ _ h => h) (Or.inl ⟨by rfl, ?_⟩) ?_ ?_
            rotate_left
            · intro w'
              go_simp
              with_reducible rfl
            rotate_left
            · simp only [Act.put, List.setIfInBounds_toArray, List.set_cons_zero, List.set_cons_succ, i64_w, i32_w]
              rfl
            refine pure_ (i := 16) (N := some 118) (v := ?_) (a' := ?_) #[false, true, true, true, true, true, true, true, true, true, true, true, false, false, true, true, true, false, false, false, false, false, false, false] rfl rfl (any_of HT_.out (by kernel_rfl)) (fun _ _ _ h => h) (Or.inl ⟨by rfl, ?_⟩) ?_ ?_
            rotate_left
            · intro w'
              go_simp
              with_reducible rfl
            rotate_left
            · simp only [Act.put, List.setIfInBounds_toArray, List.set_cons_zero, List.set_cons_succ, i64_w, i32_w]
              rfl
            refine pure_ (i := 17) (N := some 119) (v := ?_) (a' := ?_) #[false, true, true, true, true, true, true, true, true, true, true, true, false, false, true, true, true, true, false, false, false, false, false, false] rfl rfl (any_of HT_.out (by kernel_rfl)) (fun _ _ _ h => h) (Or.inl ⟨by rfl, ?_⟩) ?_ ?_
            rotate_left
            · intro w'
              go_simp
              with_reducible rfl
            rotate_left
            · simp only [Act.put, List.setIfInBounds_toArray, List.set_cons_zero, List.set_cons_succ, i64_w, i32_w]
              rfl
            refine pure_ (i := 18) (N := some 120) (v := ?_) (a' := ?_) #[false, true, true, true, true, true, true, true, true, true, true, true, false, false, true, true, true, true, true, false, false, false, false, false] rfl rfl (any_of HT_.out (by kernel_rfl)) (fun _ _ _ h => h) (Or.inl ⟨by rfl, ?_⟩) ?_ ?_
            rotate_left
            · intro w'
              go_simp
              with_reducible rfl
            rotate_left
            · simp only [Act.put, List.setIfInBounds_toArray, List.set_cons_zero, List.set_cons_succ, i64_w, i32_w]
              rfl
            refine pure_ (i := 19) (N := some 121) (v := ?_) (a' := ?_) #[false, true, true, true, true, true, true, true, true, true, true, true, false, false, true, true, true, true, true, true, false, false, false, false] rfl rfl (any_of HT_.out (by kernel_rfl)) (fun _ _ _ h => h) (Or.inl ⟨by rfl, ?_⟩) ?_ ?_
            rotate_left
            · intro w'
              go_simp
              with_reducible rfl
            rotate_left
            · simp only [Act.put, List.setIfInBounds_toArray, List.set_cons_zero, List.set_cons_succ, i64_w, i32_w]
              rfl
            refine pure_ (i := 20) (N := some 122) (v := ?_) (a' := ?_) #[false, true, true, true, true, true, true, true, true, true, true, true, false, false, true, true, true, true, true, true, true, false, false, false] rfl rfl (any_of HT_.out (by kernel_rfl)) (fun _ _ _ h => h) (Or.inl ⟨by rfl, ?_⟩) ?_ ?_
            rotate_left
            · intro w'
              go_simp
              with_reducible rfl
            rotate_left
            · simp only [Act.put, List.setIfInBounds_toArray, List.set_cons_zero, List.set_cons_succ, i64_w, i32_w]
              rfl
            refine take_ (i := 0) (N := some 102) (v := ?_) (a' := ?_) #[true, true, true, true, true, true, true, true, true, true, true, true, false, false, true, true, true, true, true, true, true, false, false, false] rfl rfl (take_ofW HT_.out HW_.out (by kernel_rfl)) (fun _ _ _ h => h) (Or.inl ⟨by rfl, ?_⟩) hHeld ?_ ?_
            rotate_left
            · rintro w' ⟨s0, s1⟩
              go_simp
              with_reducible rfl
            rotate_left
            · simp only [Act.put, List.setIfInBounds_toArray, List.set_cons_zero, List.set_cons_succ, i64_w, i32_w]
              rfl
            refine one_ (i := 12) (N := some 114) #[true, true, true, true, true, true, true, true, true, true, true, true, true, false, true, true, true, true, true, true, true, false, false, false] rfl rfl (one_of HT_.out (by kernel_rfl)) (by decide) (fun K hK => ?_)
            refine goes_ Try.func31 (by kernel_rfl) rfl #[.int .i64 a2, .int .i64 40] (by rfl) rfl rfl (by (try simp only [List.map_toArray, List.map_cons, List.map_nil]); first | done | rfl | (simp only [List.length_drop, List.length_take]; rfl)) ?_
            with_reducible refine (K_Mod.calls a2 40 t716 _ A104.out).mono ?_
            rintro e w' ⟨rfl, ⟨nd, rfl⟩⟩
            refine ⟨_, rfl, ?_⟩
            obtain ⟨Ao107, co107, eo107⟩ := Kd.R_slice HO_715001.out
            (first | subst eo107 | (injection eo107 with f1_ f2_ f3_; have f4_ := f1_.symm; have f5_ := f3_.symm; clear f1_ f2_ f3_; subst f4_; subst f5_))
            refine hK.out _ _ ⟨(blk_cell BK714.out 0).trans rfl, (blk_cell BK714.out 1).trans rfl⟩ (fun hHeld => ?_)
            clear hK K
            refine norm_ (a' := ?_) ?_ ?_
            rotate_left
            · show Act.put _ (some 114) _ = _
              simp only [Act.put, List.setIfInBounds_toArray, List.set_cons_zero, List.set_cons_succ, i64_w, i32_w]
              rfl
            refine pure_ (i := 13) (N := some 115) (v := ?_) (a' := ?_) #[true, true, true, true, true, true, true, true, true, true, true, true, true, true, true, true, true, true, true, true, true, false, false, false] rfl rfl (any_of HT_.out (by kernel_rfl)) (fun _ _ _ h => h) (Or.inl ⟨by rfl, ?_⟩) ?_ ?_
            rotate_left
            · intro w'
              go_simp
              with_reducible rfl
            rotate_left
            · simp only [Act.put, List.setIfInBounds_toArray, List.set_cons_zero, List.set_cons_succ, i64_w, i32_w]
              rfl
            refine pure_ (i := 21) (N := some 123) (v := ?_) (a' := ?_) #[true, true, true, true, true, true, true, true, true, true, true, true, true, true, true, true, true, true, true, true, true, true, false, false] rfl rfl (any_of HT_.out (by kernel_rfl)) (fun _ _ _ h => h) (Or.inl ⟨by rfl, ?_⟩) ?_ ?_
            rotate_left
            · intro w'
              go_simp
              with_reducible rfl
            rotate_left
            · simp only [Act.put, List.setIfInBounds_toArray, List.set_cons_zero, List.set_cons_succ, i64_w, i32_w]
              rfl
            refine one_ (i := 22) (N := none) #[true, true, true, true, true, true, true, true, true, true, true, true, true, true, true, true, true, true, true, true, true, true, true, false] rfl rfl (one_of HT_.out (by kernel_rfl)) (by decide) (fun K hK => ?_)
            have hs106 : w105.cell? ⟨gb712, 0, none⟩ = some (.int .i64 0) := (blk_cell BK712.out 0).trans rfl
            have hfs106 := blk_frozen BK712.out 0
            have hns106_1 := NB713_712.out
            have hns106_2 := NB714_712.out
            have hms106_1 := NB712_713.out
            have hms106_2 := NB712_714.out
            have hs108 : w105.cell? ⟨gb712, 1, none⟩ = some (.slice none 0 0) := (blk_cell BK712.out 1).trans rfl
            have hfs108 := blk_frozen BK712.out 1
            have hns108_1 := NB713_712.out
            have hns108_2 := NB714_712.out
            have hms108_1 := NB712_713.out
            have hms108_2 := NB712_714.out
            refine skip_ (w1 := ?_) (by rfl) rfl ?_ ?_
            rotate_left
            · go_simp
              rfl
            refine hK.out _ _ ⟨((cell_far (p := ⟨gb712, _, none⟩) NB714_712.out _).trans (((cell_far (p := ⟨gb712, _, none⟩) NB714_712.out _).trans (hHeld.1)))), ((cell_far (p := ⟨gb712, _, none⟩) NB714_712.out _).trans (((cell_far (p := ⟨gb712, _, none⟩) NB714_712.out _).trans (hHeld.2))))⟩ (fun hHeld => ?_)
            clear hK K
            refine one_ (i := 23) (N := none) #[true, true, true, true, true, true, true, true, true, true, true, true, true, true, true, true, true, true, true, true, true, true, true, true] rfl rfl (one_of HT_.out (by kernel_rfl)) (by decide) (fun K hK => ?_)
            have hs109 : w105.cell? ⟨gb713, 0, none⟩ = some (.int .i64 0) := (blk_cell BK713.out 0).trans rfl
            have hfs109 := blk_frozen BK713.out 0
            have hns109_0 := NB712_713.out
            have hns109_2 := NB714_713.out
            have hms109_0 := NB713_712.out
            have hms109_2 := NB713_714.out
            have hs110 : w105.cell? ⟨gb713, 1, none⟩ = some (.int .i64 0) := (blk_cell BK713.out 1).trans rfl
            have hfs110 := blk_frozen BK713.out 1
            have hns110_0 := NB712_713.out
            have hns110_2 := NB714_713.out
            have hms110_0 := NB713_712.out
            have hms110_2 := NB713_714.out
            have hs111 : w105.cell? ⟨gb713, 2, none⟩ = some (.int .i64 0) := (blk_cell BK713.out 2).trans rfl
            have hfs111 := blk_frozen BK713.out 2
            have hns111_0 := NB712_713.out
            have hns111_2 := NB714_713.out
            have hms111_0 := NB713_712.out
            have hms111_2 := NB713_714.out
            have hs112 : w105.cell? ⟨gb713, 3, none⟩ = some (.int .i64 0) := (blk_cell BK713.out 3).trans rfl
            have hfs112 := blk_frozen BK713.out 3
            have hns112_0 := NB712_713.out
            have hns112_2 := NB714_713.out
            have hms112_0 := NB713_712.out
            have hms112_2 := NB713_714.out
            have hs113 : w105.cell? ⟨gb713, 4, none⟩ = some (.int .i64 0) := (blk_cell BK713.out 4).trans rfl
            have hfs113 := blk_frozen BK713.out 4
            have hns113_0 := NB712_713.out
            have hns113_2 := NB714_713.out
            have hms113_0 := NB713_712.out
            have hms113_2 := NB713_714.out
            have hs114 : w105.cell? ⟨gb713, 5, none⟩ = some (.int .i64 0) := (blk_cell BK713.out 5).trans rfl
            have hfs114 := blk_frozen BK713.out 5
            have hns114_0 := NB712_713.out
            have hns114_2 := NB714_713.out
            have hms114_0 := NB713_712.out
            have hms114_2 := NB713_714.out
            have hs115 : w105.cell? ⟨gb713, 6, none⟩ = some (.int .i64 0) := (blk_cell BK713.out 6).trans rfl
            have hfs115 := blk_frozen BK713.out 6
            have hns115_0 := NB712_713.out
            have hns115_2 := NB714_713.out
            have hms115_0 := NB713_712.out
            have hms115_2 := NB713_714.out
            have hs116 : w105.cell? ⟨gb713, 7, none⟩ = some (.int .i64 0) := (blk_cell BK713.out 7).trans rfl
            have hfs116 := blk_frozen BK713.out 7
            have hns116_0 := NB712_713.out
            have hns116_2 := NB714_713.out
            have hms116_0 := NB713_712.out
            have hms116_2 := NB713_714.out
            have hs117 : w105.cell? ⟨gb713, 8, none⟩ = some (.int .i64 0) := (blk_cell BK713.out 8).trans rfl
            have hfs117 := blk_frozen BK713.out 8
            have hns117_0 := NB712_713.out
            have hns117_2 := NB714_713.out
            have hms117_0 := NB713_712.out
            have hms117_2 := NB713_714.out
            have hs118 : w105.cell? ⟨gb713, 9, none⟩ = some (.slice none 0 0) := (blk_cell BK713.out 9).trans rfl
            have hfs118 := blk_frozen BK713.out 9
            have hns118_0 := NB712_713.out
            have hns118_2 := NB714_713.out
            have hms118_0 := NB713_712.out
            have hms118_2 := NB713_714.out
            refine skip_ (w1 := ?_) (by rfl) rfl ?_ ?_
            rotate_left
            · go_simp
              rfl
            refine hK.out _ _ ⟨((cell_far (p := ⟨gb713, _, none⟩) NB714_713.out _).trans (((cell_far (p := ⟨gb713, _, none⟩) NB714_713.out _).trans (((cell_far (p := ⟨gb713, _, none⟩) NB714_713.out _).trans (((cell_far (p := ⟨gb713, _, none⟩) NB714_713.out _).trans (((cell_far (p := ⟨gb713, _, none⟩) NB714_713.out _).trans (((cell_far (p := ⟨gb713, _, none⟩) NB714_713.out _).trans (((cell_far (p := ⟨gb713, _, none⟩) NB714_713.out _).trans (((cell_far (p := ⟨gb713, _, none⟩) NB714_713.out _).trans (((cell_far (p := ⟨gb713, _, none⟩) NB714_713.out _).trans (((cell_far (p := ⟨gb713, _, none⟩) NB714_713.out _).trans (hHeld.1)))))))))))))))))))), ((cell_far (p := ⟨gb713, _, none⟩) NB714_713.out _).trans (((cell_far (p := ⟨gb713, _, none⟩) NB714_713.out _).trans (((cell_far (p := ⟨gb713, _, none⟩) NB714_713.out _).trans (((cell_far (p := ⟨gb713, _, none⟩) NB714_713.out _).trans (((cell_far (p := ⟨gb713, _, none⟩) NB714_713.out _).trans (((cell_far (p := ⟨gb713, _, none⟩) NB714_713.out _).trans (((cell_far (p := ⟨gb713, _, none⟩) NB714_713.out _).trans (((cell_far (p := ⟨gb713, _, none⟩) NB714_713.out _).trans (((cell_far (p := ⟨gb713, _, none⟩) NB714_713.out _).trans (((cell_far (p := ⟨gb713, _, none⟩) NB714_713.out _).trans (hHeld.2))))))))))))))))))))⟩ (fun hHeld => ?_)
            clear hK K
            refine done_ (done_of HT_.out (by kernel_rfl)) ?_
            try go_wp2
            all_goals refine bodyPost_ret (results_cc rfl _ _ gb712 gb713 25 60 #[.int .i64 20, .slice Ao107 x715001_1.length co107] #[.int .i64 (wrap64 (1 + (Int.tmod t715 3))), .int .i64 (Int.tmod (wrap64 (Int.tdiv t715 3)) 4), .int .i64 (Int.tmod (wrap64 (Int.tdiv t715 12)) 16), .int .i64 (wrap64 (x9_1 + t716)), .int .i64 (wrap64 (1 + (Int.tmod (wrap64 (Int.tdiv t715 192)) 40))), .int .i64 0, .int .i64 500, .int .i64 (Int.tmod (wrap64 (Int.tdiv t715 8192)) 8), .int .i64 2, .slice none 0 0] (0, 0) (0, 0) _ _ rfl (by (with_reducible repeat (first | refine blk_drewN ?_ _ | refine blk_drew ?_ | refine blk_alloc ?_ _)); refine blk_far ?_ NB712_713.out _; (with_reducible repeat (first | refine blk_drewN ?_ _ | refine blk_drew ?_ | refine blk_alloc ?_ _)); refine blk_far ?_ NB712_713.out _; (with_reducible repeat (first | refine blk_drewN ?_ _ | refine blk_drew ?_ | refine blk_alloc ?_ _)); refine blk_far ?_ NB712_713.out _; (with_reducible repeat (first | refine blk_drewN ?_ _ | refine blk_drew ?_ | refine blk_alloc ?_ _)); refine blk_far ?_ NB712_713.out _; (with_reducible repeat (first | refine blk_drewN ?_ _ | refine blk_drew ?_ | refine blk_alloc ?_ _)); refine blk_far ?_ NB712_713.out _; (with_reducible repeat (first | refine blk_drewN ?_ _ | refine blk_drew ?_ | refine blk_alloc ?_ _)); refine blk_far ?_ NB712_713.out _; (with_reducible repeat (first | refine blk_drewN ?_ _ | refine blk_drew ?_ | refine blk_alloc ?_ _)); refine blk_far ?_ NB712_713.out _; (with_reducible repeat (first | refine blk_drewN ?_ _ | refine blk_drew ?_ | refine blk_alloc ?_ _)); refine blk_far ?_ NB712_713.out _; (with_reducible repeat (first | refine blk_drewN ?_ _ | refine blk_drew ?_ | refine blk_alloc ?_ _)); refine blk_far ?_ NB712_713.out _; (with_reducible repeat (first | refine blk_drewN ?_ _ | refine blk_drew ?_ | refine blk_alloc ?_ _)); refine blk_far ?_ NB712_713.out _; (with_reducible repeat (first | refine blk_drewN ?_ _ | refine blk_drew ?_ | refine blk_alloc ?_ _)); refine blk_put (cs := #[.int .i64 20, .slice none 0 0]) ?_ 1 _ rfl; (with_reducible repeat (first | refine blk_drewN ?_ _ | refine blk_drew ?_ | refine blk_alloc ?_ _)); refine blk_put (cs := #[.int .i64 0, .slice none 0 0]) ?_ 0 _ rfl; (with_reducible repeat (first | refine blk_drewN ?_ _ | refine blk_drew ?_ | refine blk_alloc ?_ _)); exact BK712.out) Try.underlying25 rfl (by kernel_rfl) rfl (by (with_reducible repeat (first | refine blk_drewN ?_ _ | refine blk_drew ?_ | refine blk_alloc ?_ _)); refine blk_put (cs := #[.int .i64 (wrap64 (1 + (Int.tmod t715 3))), .int .i64 (Int.tmod (wrap64 (Int.tdiv t715 3)) 4), .int .i64 (Int.tmod (wrap64 (Int.tdiv t715 12)) 16), .int .i64 (wrap64 (x9_1 + t716)), .int .i64 (wrap64 (1 + (Int.tmod (wrap64 (Int.tdiv t715 192)) 40))), .int .i64 0, .int .i64 500, .int .i64 (Int.tmod (wrap64 (Int.tdiv t715 8192)) 8), .int .i64 2, .slice none 0 0]) ?_ 9 _ rfl; (with_reducible repeat (first | refine blk_drewN ?_ _ | refine blk_drew ?_ | refine blk_alloc ?_ _)); refine blk_put (cs := #[.int .i64 (wrap64 (1 + (Int.tmod t715 3))), .int .i64 (Int.tmod (wrap64 (Int.tdiv t715 3)) 4), .int .i64 (Int.tmod (wrap64 (Int.tdiv t715 12)) 16), .int .i64 (wrap64 (x9_1 + t716)), .int .i64 (wrap64 (1 + (Int.tmod (wrap64 (Int.tdiv t715 192)) 40))), .int .i64 0, .int .i64 500, .int .i64 (Int.tmod (wrap64 (Int.tdiv t715 8192)) 8), .int .i64 0, .slice none 0 0]) ?_ 8 _ rfl; (with_reducible repeat (first | refine blk_drewN ?_ _ | refine blk_drew ?_ | refine blk_alloc ?_ _)); refine blk_put (cs := #[.int .i64 (wrap64 (1 + (Int.tmod t715 3))), .int .i64 (Int.tmod (wrap64 (Int.tdiv t715 3)) 4), .int .i64 (Int.tmod (wrap64 (Int.tdiv t715 12)) 16), .int .i64 (wrap64 (x9_1 + t716)), .int .i64 (wrap64 (1 + (Int.tmod (wrap64 (Int.tdiv t715 192)) 40))), .int .i64 0, .int .i64 500, .int .i64 0, .int .i64 0, .slice none 0 0]) ?_ 7 _ rfl; (with_reducible repeat (first | refine blk_drewN ?_ _ | refine blk_drew ?_ | refine blk_alloc ?_ _)); refine blk_put (cs := #[.int .i64 (wrap64 (1 + (Int.tmod t715 3))), .int .i64 (Int.tmod (wrap64 (Int.tdiv t715 3)) 4), .int .i64 (Int.tmod (wrap64 (Int.tdiv t715 12)) 16), .int .i64 (wrap64 (x9_1 + t716)), .int .i64 (wrap64 (1 + (Int.tmod (wrap64 (Int.tdiv t715 192)) 40))), .int .i64 0, .int .i64 0, .int .i64 0, .int .i64 0, .slice none 0 0]) ?_ 6 _ rfl; (with_reducible repeat (first | refine blk_drewN ?_ _ | refine blk_drew ?_ | refine blk_alloc ?_ _)); refine blk_put (cs := #[.int .i64 (wrap64 (1 + (Int.tmod t715 3))), .int .i64 (Int.tmod (wrap64 (Int.tdiv t715 3)) 4), .int .i64 (Int.tmod (wrap64 (Int.tdiv t715 12)) 16), .int .i64 (wrap64 (x9_1 + t716)), .int .i64 (wrap64 (1 + (Int.tmod (wrap64 (Int.tdiv t715 192)) 40))), .int .i64 0, .int .i64 0, .int .i64 0, .int .i64 0, .slice none 0 0]) ?_ 5 _ rfl; (with_reducible repeat (first | refine blk_drewN ?_ _ | refine blk_drew ?_ | refine blk_alloc ?_ _)); refine blk_put (cs := #[.int .i64 (wrap64 (1 + (Int.tmod t715 3))), .int .i64 (Int.tmod (wrap64 (Int.tdiv t715 3)) 4), .int .i64 (Int.tmod (wrap64 (Int.tdiv t715 12)) 16), .int .i64 (wrap64 (x9_1 + t716)), .int .i64 0, .int .i64 0, .int .i64 0, .int .i64 0, .int .i64 0, .slice none 0 0]) ?_ 4 _ rfl; (with_reducible repeat (first | refine blk_drewN ?_ _ | refine blk_drew ?_ | refine blk_alloc ?_ _)); refine blk_put (cs := #[.int .i64 (wrap64 (1 + (Int.tmod t715 3))), .int .i64 (Int.tmod (wrap64 (Int.tdiv t715 3)) 4), .int .i64 (Int.tmod (wrap64 (Int.tdiv t715 12)) 16), .int .i64 0, .int .i64 0, .int .i64 0, .int .i64 0, .int .i64 0, .int .i64 0, .slice none 0 0]) ?_ 3 _ rfl; (with_reducible repeat (first | refine blk_drewN ?_ _ | refine blk_drew ?_ | refine blk_alloc ?_ _)); refine blk_put (cs := #[.int .i64 (wrap64 (1 + (Int.tmod t715 3))), .int .i64 (Int.tmod (wrap64 (Int.tdiv t715 3)) 4), .int .i64 0, .int .i64 0, .int .i64 0, .int .i64 0, .int .i64 0, .int .i64 0, .int .i64 0, .slice none 0 0]) ?_ 2 _ rfl; (with_reducible repeat (first | refine blk_drewN ?_ _ | refine blk_drew ?_ | refine blk_alloc ?_ _)); refine blk_put (cs := #[.int .i64 (wrap64 (1 + (Int.tmod t715 3))), .int .i64 0, .int .i64 0, .int .i64 0, .int .i64 0, .int .i64 0, .int .i64 0, .int .i64 0, .int .i64 0, .slice none 0 0]) ?_ 1 _ rfl; (with_reducible repeat (first | refine blk_drewN ?_ _ | refine blk_drew ?_ | refine blk_alloc ?_ _)); refine blk_put (cs := #[.int .i64 0, .int .i64 0, .int .i64 0, .int .i64 0, .int .i64 0, .int .i64 0, .int .i64 0, .int .i64 0, .int .i64 0, .slice none 0 0]) ?_ 0 _ rfl; (with_reducible repeat (first | refine blk_drewN ?_ _ | refine blk_drew ?_ | refine blk_alloc ?_ _)); refine blk_far ?_ NB713_712.out _; (with_reducible repeat (first | refine blk_drewN ?_ _ | refine blk_drew ?_ | refine blk_alloc ?_ _)); refine blk_far ?_ NB713_712.out _; (with_reducible repeat (first | refine blk_drewN ?_ _ | refine blk_drew ?_ | refine blk_alloc ?_ _)); exact BK713.out) Try.underlying60 rfl (by kernel_rfl)) rfl ?_
            all_goals exact ⟨_, _, by first | rfl | (simp [errW_none, errW_some] <;> rfl) | (simp [*, errW_none, errW_some] <;> rfl), by (with_reducible repeat (first | apply Kd.R_alloc | apply Kd.R_drewN | apply Kd.R_drew)); exact Kd.R_mono (Kd.R_far (p := ⟨gb713, 9, none⟩) (Kd.R_far (p := ⟨gb713, 8, none⟩) (Kd.R_far (p := ⟨gb713, 7, none⟩) (Kd.R_far (p := ⟨gb713, 6, none⟩) (Kd.R_far (p := ⟨gb713, 5, none⟩) (Kd.R_far (p := ⟨gb713, 4, none⟩) (Kd.R_far (p := ⟨gb713, 3, none⟩) (Kd.R_far (p := ⟨gb713, 2, none⟩) (Kd.R_far (p := ⟨gb713, 1, none⟩) (Kd.R_far (p := ⟨gb713, 0, none⟩) (Kd.R_far (p := ⟨gb712, 1, none⟩) (Kd.R_far (p := ⟨gb712, 0, none⟩) (Kd.R_types (Kd.R_types HO_715001.out BK712.out (by decide)) BK713.out (by decide)) (fun _ hk => hk.1.2) (.int .i64 20)) (fun _ hk => hk.1.2) (.slice Ao107 x715001_1.length co107)) (fun _ hk => hk.2) (.int .i64 (wrap64 (1 + (Int.tmod t715 3))))) (fun _ hk => hk.2) (.int .i64 (Int.tmod (wrap64 (Int.tdiv t715 3)) 4))) (fun _ hk => hk.2) (.int .i64 (Int.tmod (wrap64 (Int.tdiv t715 12)) 16))) (fun _ hk => hk.2) (.int .i64 (wrap64 (x9_1 + t716)))) (fun _ hk => hk.2) (.int .i64 (wrap64 (1 + (Int.tmod (wrap64 (Int.tdiv t715 192)) 40))))) (fun _ hk => hk.2) (.int .i64 0)) (fun _ hk => hk.2) (.int .i64 500)) (fun _ hk => hk.2) (.int .i64 (Int.tmod (wrap64 (Int.tdiv t715 8192)) 8))) (fun _ hk => hk.2) (.int .i64 2)) (fun _ hk => hk.2) (.slice none 0 0)) (fun _ hk => (by simp [Value.ownBlock])), by first | exact Kd.R_nil _ _ _ _ _ | exact Kd.N_nil _ _ _ _ _ | exact Kd.V_nil _ _ _ _ _ | exact Kd.Q_nil _ _ _ _ _ | exact Kd.S_nil _ _ _ _ _, by repeat (first | (with_reducible first | exact HB.out | apply below_alloc | apply pw_below_drewN | apply below_drew1 | refine below_set ?_ GE712.out | refine below_set ?_ GE713.out | refine below_set ?_ GE714.out) | exact HB.out)⟩


end Go.Proofs.Ytmfbpkjhabdcgaa.F
end
