-- Written by fork.py (this session's program over the kit's print.py). Not trusted: Lean checks it.
import Derived.Test.YtlcghmfkgblheaaF0
import Derived.Test.YtlcghmfkgblheaaF1
import Derived.Test.YtlcghmfkgblheaaF3
import Derived.Test.YtlcghmfkgblheaaF4
import Derived.Test.YtlcghmfkgblheaaF5
import Derived.Test.YtlcghmfkgblheaaXStretches
namespace Go.Proofs.Ytlcghmfkgblheaa.F
open Go.RowKit Go.Proofs.YtlcghmfkgblheaaW.PrintWords Go.Proofs.YtlcghmfkgblheaaW.PrintLast Go.Proofs.YtlcghmfkgblheaaW.PrintMore
attribute [local go_sem] max2_int min2_int max_two min_two max_three min_three max_four min_four
set_option linter.unusedVariables false
set_option linter.unusedSimpArgs false

/-! ### L22_KeyHistory: function 3 -/
mutual
def L22_KeyHistory.l0 : Nat → List (S37) → List (S39) → Int → Int → List Int → Int → Int → Option (Bool)
  | 0, _, _, _, _, _, _, _ => none
  | k + 1, x7, x8, x9, x10, x230000, x230001, x230002 => if x10 < (x7.length : Int) then (if 0 ≤ x10 then ((key_Present.f k x230000 x230001 x230002 ((rd_T37 x7 x10).f1) ((rd_T37 x7 x10).f0)).bind fun bt239 => (if bt239.2.2.2.2 = 0 then (L22_KeyHistory.l0 k x7 x8 ((rd_T37 x7 x10).f0) (wrap64 (x10 + 1)) bt239.1 bt239.2.1 bt239.2.2.1) else (some false))) else (none)) else (L22_KeyHistory.l1 k x8 x9 x9 x230000 x230001 x230002)
def L22_KeyHistory.l1 : Nat → List (S39) → Int → Int → List Int → Int → Int → Option (Bool)
  | 0, _, _, _, _, _, _ => none
  | k + 1, x8, x9, x11, x230000, x230001, x230002 => if x11 < (wrap64 (x9 + 60)) then (L22_KeyHistory.l2 k x8 x9 x11 false 0 x230000 x230001 x230002) else ((L22_awake.f k).bind fun t247 => (some t247))
def L22_KeyHistory.l2 : Nat → List (S39) → Int → Int → Bool → Int → List Int → Int → Int → Option (Bool)
  | 0, _, _, _, _, _, _, _, _ => none
  | k + 1, x8, x9, x11, x12, x13, x230000, x230001, x230002 => if x13 < (x8.length : Int) then (if x12 = true then (L22_KeyHistory.l2 k x8 x9 x11 true (wrap64 (x13 + 1)) x230000 x230001 x230002) else (if 0 ≤ x13 then (if ((rd_T39 x8 x13).f0) ≤ x11 then (L22_KeyHistory.l2 k x8 x9 x11 (decide (x11 < ((rd_T39 x8 x13).f1))) (wrap64 (x13 + 1)) x230000 x230001 x230002) else (L22_KeyHistory.l2 k x8 x9 x11 false (wrap64 (x13 + 1)) x230000 x230001 x230002)) else (none))) else ((key_Valid.f k x230000 x230001 x230002 x11).bind fun bt250 => ((key_Left.f k x230000 x230001 x230002 x11).bind fun bt252 => ((key_Left.f k x230000 x230001 x230002 (wrap64 (x11 + 1))).bind fun bt254 => (if bt250.2 = 0 then (if bt252.2 = 0 then (if bt254.2 = 0 then (if (bt250.1 != x12) = true then (some false) else (if bt252.1 > x230001 then (some false) else (if bt254.1 = (mx 0 (wrap64 (bt252.1 - 1))) then (if ((decide (bt252.1 > 0)) != bt250.1) = true then (some false) else (L22_KeyHistory.l1 k x8 x9 (wrap64 (x11 + 1)) x230000 x230001 x230002)) else (some false)))) else (some false)) else (some false)) else (some false)))))
end
def L22_KeyHistory.f (k : Nat) (l0 : List Int) (a1 : Int) : Option (Bool) := (K_Mod.f a1 25).bind fun t222 => ((key_New.f k (([7, 42] : List Int)) (wrap64 (1 + t222))).bind fun bt223 => ((L22_stamps.f k l0).bind fun t230 => (if bt223.2.2.2 = 0 then ((key_Stretches.f bt223.1 bt223.2.1 bt223.2.2.1 t230).bind fun bt233 => (if bt233.2 = 0 then (L22_KeyHistory.l0 k t230 bt233.1 0 0 bt223.1 bt223.2.1 bt223.2.2.1) else (some false))) else (some false))))
theorem L22_KeyHistory.mono_l : ∀ k, (∀ y0 y1 y2 y3 y4 y5 y6, LeO (L22_KeyHistory.l0 k y0 y1 y2 y3 y4 y5 y6) (L22_KeyHistory.l0 (k + 1) y0 y1 y2 y3 y4 y5 y6)) ∧ (∀ y0 y1 y2 y3 y4 y5, LeO (L22_KeyHistory.l1 k y0 y1 y2 y3 y4 y5) (L22_KeyHistory.l1 (k + 1) y0 y1 y2 y3 y4 y5)) ∧ (∀ y0 y1 y2 y3 y4 y5 y6 y7, LeO (L22_KeyHistory.l2 k y0 y1 y2 y3 y4 y5 y6 y7) (L22_KeyHistory.l2 (k + 1) y0 y1 y2 y3 y4 y5 y6 y7))
  | 0 => ⟨fun _ _ _ _ _ _ _ r h => by simp [L22_KeyHistory.l0] at h, fun _ _ _ _ _ _ r h => by simp [L22_KeyHistory.l1] at h, fun _ _ _ _ _ _ _ _ r h => by simp [L22_KeyHistory.l2] at h⟩
  | k + 1 => by
    obtain ⟨ih0, ih1, ih2⟩ := L22_KeyHistory.mono_l k
    refine ⟨?_, ?_, ?_⟩
    · intro y0 y1 y2 y3 y4 y5 y6
      unfold L22_KeyHistory.l0
      repeat' first
      | (with_reducible exact ih0 _ _ _ _ _ _ _)
      | (with_reducible exact ih1 _ _ _ _ _ _)
      | (with_reducible exact ih2 _ _ _ _ _ _ _ _)
      | (with_reducible exact L22_awake.mono _)
      | (with_reducible exact L22_stamps.mono _ _)
      | (with_reducible exact key_Left.mono _ _ _ _ _)
      | (with_reducible exact key_New.mono _ _ _)
      | (with_reducible exact key_Present.mono _ _ _ _ _ _)
      | (with_reducible exact key_Valid.mono _ _ _ _ _)
      | (with_reducible exact LeO.refl _)
      | (with_reducible exact LeO.none _)
      | (with_reducible refine LeO.ite ?_ ?_)
      | (with_reducible refine LeO.bind ?_ (fun _ => ?_))
      | exact ih0 _ _ _ _ _ _ _
      | exact ih1 _ _ _ _ _ _
      | exact ih2 _ _ _ _ _ _ _ _
      | exact L22_awake.mono _
      | exact L22_stamps.mono _ _
      | exact key_Left.mono _ _ _ _ _
      | exact key_New.mono _ _ _
      | exact key_Present.mono _ _ _ _ _ _
      | exact key_Valid.mono _ _ _ _ _
      | exact LeO.none _
      | refine LeO.ite ?_ ?_
      | refine LeO.bind ?_ (fun _ => ?_)
    · intro y0 y1 y2 y3 y4 y5
      unfold L22_KeyHistory.l1
      repeat' first
      | (with_reducible exact ih0 _ _ _ _ _ _ _)
      | (with_reducible exact ih1 _ _ _ _ _ _)
      | (with_reducible exact ih2 _ _ _ _ _ _ _ _)
      | (with_reducible exact L22_awake.mono _)
      | (with_reducible exact L22_stamps.mono _ _)
      | (with_reducible exact key_Left.mono _ _ _ _ _)
      | (with_reducible exact key_New.mono _ _ _)
      | (with_reducible exact key_Present.mono _ _ _ _ _ _)
      | (with_reducible exact key_Valid.mono _ _ _ _ _)
      | (with_reducible exact LeO.refl _)
      | (with_reducible exact LeO.none _)
      | (with_reducible refine LeO.ite ?_ ?_)
      | (with_reducible refine LeO.bind ?_ (fun _ => ?_))
      | exact ih0 _ _ _ _ _ _ _
      | exact ih1 _ _ _ _ _ _
      | exact ih2 _ _ _ _ _ _ _ _
      | exact L22_awake.mono _
      | exact L22_stamps.mono _ _
      | exact key_Left.mono _ _ _ _ _
      | exact key_New.mono _ _ _
      | exact key_Present.mono _ _ _ _ _ _
      | exact key_Valid.mono _ _ _ _ _
      | exact LeO.none _
      | refine LeO.ite ?_ ?_
      | refine LeO.bind ?_ (fun _ => ?_)
    · intro y0 y1 y2 y3 y4 y5 y6 y7
      unfold L22_KeyHistory.l2
      repeat' first
      | (with_reducible exact ih0 _ _ _ _ _ _ _)
      | (with_reducible exact ih1 _ _ _ _ _ _)
      | (with_reducible exact ih2 _ _ _ _ _ _ _ _)
      | (with_reducible exact L22_awake.mono _)
      | (with_reducible exact L22_stamps.mono _ _)
      | (with_reducible exact key_Left.mono _ _ _ _ _)
      | (with_reducible exact key_New.mono _ _ _)
      | (with_reducible exact key_Present.mono _ _ _ _ _ _)
      | (with_reducible exact key_Valid.mono _ _ _ _ _)
      | (with_reducible exact LeO.refl _)
      | (with_reducible exact LeO.none _)
      | (with_reducible refine LeO.ite ?_ ?_)
      | (with_reducible refine LeO.bind ?_ (fun _ => ?_))
      | exact ih0 _ _ _ _ _ _ _
      | exact ih1 _ _ _ _ _ _
      | exact ih2 _ _ _ _ _ _ _ _
      | exact L22_awake.mono _
      | exact L22_stamps.mono _ _
      | exact key_Left.mono _ _ _ _ _
      | exact key_New.mono _ _ _
      | exact key_Present.mono _ _ _ _ _ _
      | exact key_Valid.mono _ _ _ _ _
      | exact LeO.none _
      | refine LeO.ite ?_ ?_
      | refine LeO.bind ?_ (fun _ => ?_)
theorem L22_KeyHistory.mono : ∀ a0 a1 k, LeO (L22_KeyHistory.f k a0 a1) (L22_KeyHistory.f (k + 1) a0 a1) := by
  intro a0 a1 k
  obtain ⟨ih0, ih1, ih2⟩ := L22_KeyHistory.mono_l k
  unfold L22_KeyHistory.f
  repeat' first
      | (with_reducible exact ih0 _ _ _ _ _ _ _)
      | (with_reducible exact ih1 _ _ _ _ _ _)
      | (with_reducible exact ih2 _ _ _ _ _ _ _ _)
      | (with_reducible exact L22_awake.mono _)
      | (with_reducible exact L22_stamps.mono _ _)
      | (with_reducible exact key_Left.mono _ _ _ _ _)
      | (with_reducible exact key_New.mono _ _ _)
      | (with_reducible exact key_Present.mono _ _ _ _ _ _)
      | (with_reducible exact key_Valid.mono _ _ _ _ _)
      | (with_reducible exact LeO.refl _)
      | (with_reducible exact LeO.none _)
      | (with_reducible refine LeO.ite ?_ ?_)
      | (with_reducible refine LeO.bind ?_ (fun _ => ?_))
      | exact ih0 _ _ _ _ _ _ _
      | exact ih1 _ _ _ _ _ _
      | exact ih2 _ _ _ _ _ _ _ _
      | exact L22_awake.mono _
      | exact L22_stamps.mono _ _
      | exact key_Left.mono _ _ _ _ _
      | exact key_New.mono _ _ _
      | exact key_Present.mono _ _ _ _ _ _
      | exact key_Valid.mono _ _ _ _ _
      | exact LeO.none _
      | refine LeO.ite ?_ ?_
      | refine LeO.bind ?_ (fun _ => ?_)
def L22_KeyHistory.T12 : Bool × List (List Nat × List Nat) := (true, [([], []), ([], []), ([], []), ([1, 2], [1, 2]), ([3], [3]), ([4], [4]), ([], []), ([], []), ([6, 7], [6, 7]), ([8], [8]), ([9], [9]), ([0, 5, 10], [0, 5, 10]), ([11], [11]), ([12], [12]), ([12], [12]), ([12], [12]), ([13, 11, 0, 1, 2, 3, 4, 5, 6, 7, 8, 9, 10, 11, 12, 13], [13]), ([15, 16, 0, 1, 2, 3, 4, 5, 6, 7, 8, 9, 10, 11, 12, 13, 14, 15, 16], [15])])
def L22_KeyHistory.B12 : List Nat := [0, 0, 0, 6, 14, 30, 0, 0, 192, 448, 960, 2047, 4095, 8191, 8191, 8191, 16383, 131071]
theorem L22_KeyHistory.tab12 : rtab .any (opsOf Try.f3 12) = L22_KeyHistory.T12 := by kernel_rfl
theorem L22_KeyHistory.bits12 : waitsOk L22_KeyHistory.T12.2 L22_KeyHistory.B12 = true := by kernel_rfl
set_option maxHeartbeats 8000000 in
set_option maxRecDepth 100000 in
theorem L22_KeyHistory.calls (k : Nat) (A0 : Option Addr) (c0 : Nat) (l0 : List Int) (a1 : Int) (r : Bool) (w : World) (hr0 : Kd.C (Kd.int .i64) w A0 l0.length l0) (hc0 : l0.length ≤ c0) (h : L22_KeyHistory.f k l0 a1 = some r) (ht_ : r = true := by rfl) :
    Calls Try.prog 3 #[.slice A0 l0.length c0, .int .i64 a1] w fun e w' => e = .returned (.bool r) ∧ Below w.heap.size w w' := by
  subst ht_
  have hu24 := Try.underlying24
  have HR0 := Aside0.mk hr0
  have HC0 := Aside0.mk hc0
  clear hr0 hc0
  have HB := Aside0.mk (Below.refl w.heap.size w)
  have H : ((K_Mod.f a1 25).bind fun t222 => ((key_New.f k (([7, 42] : List Int)) (wrap64 (1 + t222))).bind fun bt223 => ((L22_stamps.f k l0).bind fun t230 => (if bt223.2.2.2 = 0 then ((key_Stretches.f bt223.1 bt223.2.1 bt223.2.2.1 t230).bind fun bt233 => (if bt233.2 = 0 then (L22_KeyHistory.l0 k t230 bt233.1 0 0 bt223.1 bt223.2.1 bt223.2.2.1) else (some false))) else (some false))))) = some true := h
  clear h
  obtain ⟨y219, hy219⟩ : ∃ y_ : List Int, y_ = (([7, 42] : List Int)) := ⟨_, rfl⟩
  replace H : ((K_Mod.f a1 25).bind fun t222 => ((key_New.f k y219 (wrap64 (1 + t222))).bind fun bt223 => ((L22_stamps.f k l0).bind fun t230 => (if bt223.2.2.2 = 0 then ((key_Stretches.f bt223.1 bt223.2.1 bt223.2.2.1 t230).bind fun bt233 => (if bt233.2 = 0 then (L22_KeyHistory.l0 k t230 bt233.1 0 0 bt223.1 bt223.2.1 bt223.2.2.1) else (some false))) else (some false))))) = some true := by first | (rw [hy219]; with_reducible exact H) | (have H2_ := (Option.bind_some _ _).symm.trans H; rw [hy219]; with_reducible exact H2_) | (have H2_ := (Option.bind_some _ _).symm.trans H; with_reducible exact H2_) | with_reducible exact H | (rw [hy219]; exact H) | exact H
  have Ny219 := Aside0.mk hy219
  clear hy219
  replace H := Option.bind_eq_some_iff.mp H
  obtain ⟨t222, A30, H⟩ := H
  replace H : ((key_New.f k y219 (wrap64 (1 + t222))).bind fun bt223 => ((L22_stamps.f k l0).bind fun t230 => (if bt223.2.2.2 = 0 then ((key_Stretches.f bt223.1 bt223.2.1 bt223.2.2.1 t230).bind fun bt233 => (if bt233.2 = 0 then (L22_KeyHistory.l0 k t230 bt233.1 0 0 bt223.1 bt223.2.1 bt223.2.2.1) else (some false))) else (some false)))) = some true := H
  have A3 := Aside0.mk A30
  clear A30
  replace H := Option.bind_eq_some_iff.mp H
  obtain ⟨⟨t223, t226, t227, t228⟩, A40, H⟩ := H
  replace H : ((L22_stamps.f k l0).bind fun t230 => (if t228 = 0 then ((key_Stretches.f t223 t226 t227 t230).bind fun bt233 => (if bt233.2 = 0 then (L22_KeyHistory.l0 k t230 bt233.1 0 0 t223 t226 t227) else (some false))) else (some false))) = some true := H
  have A4 := Aside0.mk A40
  clear A40
  replace H := Option.bind_eq_some_iff.mp H
  obtain ⟨t230, A50, H⟩ := H
  replace H : (if t228 = 0 then ((key_Stretches.f t223 t226 t227 t230).bind fun bt233 => (if bt233.2 = 0 then (L22_KeyHistory.l0 k t230 bt233.1 0 0 t223 t226 t227) else (some false))) else (some false)) = some true := H
  have A5 := Aside0.mk A50
  clear A50
  by_cases c6 : t228 = 0
  · rw [if_pos c6] at H
    have c6b0 : (t228 == 0) = true := beq_iff_eq.mpr c6
    have c6b1 : (t228 != 0) = false := bne_eq_false_iff_eq.mpr c6
    clear c6
    replace H := Option.bind_eq_some_iff.mp H
    obtain ⟨⟨t233, t236⟩, A70, H⟩ := H
    replace H : (if t236 = 0 then (L22_KeyHistory.l0 k t230 t233 0 0 t223 t226 t227) else (some false)) = some true := H
    have A7 := Aside0.mk A70
    clear A70
    by_cases c8 : t236 = 0
    · rw [if_pos c8] at H
      have c8b0 : (t236 == 0) = true := beq_iff_eq.mpr c8
      have c8b1 : (t236 != 0) = false := bne_eq_false_iff_eq.mpr c8
      clear c8
      have H' := Aside0.mk H
      clear H
      go_enter Try.func3, Try.ntmps3
      go_wp2_with (first | ((with_reducible refine gate_dst (N := 21) rfl ?_); (try (refine gate_guard (by rfl) ?_; dsimp only)); refine Kd.R_lit (Kd.int .i64) _ 3 ?hg (N := 21) ?hd (xs := ([7, 42] : List Int)) (inner := [.int .i64 7, .int .i64 42]) (ok := fun _ => True) (okp := fun _ => True) ?hr ?hp (fun _ hk => hk) trivial (Below.refl _ _) (Nat.le_refl _) (by simp) ?_; (case hd => rfl); (case hg => rfl); (case hr => first | (go_simp; done) | (go_simp; rfl)); (case hp => exact (Reps.one (show Kd.M (Kd.int .i64) _ _ _ 7 [.int .i64 7] from rfl) (Reps.one (show Kd.M (Kd.int .i64) _ _ _ 42 [.int .i64 42] from rfl) (Reps.none _ _)))); intro v220 w9 ho10 hb hg_ hnew_; clear hg_ hnew_; (first | rw [← Ny219.out] at ho10 | (simp only [Int.reduceToNat] at ho10; rw [← Ny219.out] at ho10)); have n0_ := Aside0.mk (Kd.R_lower ho10 (below_size (by repeat (first | (with_reducible first | exact HB.out | apply below_alloc | apply pw_below_drewN | apply below_drew1) | exact HB.out)))); have n1_ := Aside0.mk (below_step (by repeat (first | (with_reducible first | exact HB.out | apply below_alloc | apply pw_below_drewN | apply below_drew1) | exact HB.out)) hb); clear HB; have HO221 := n0_; have HB := n1_; clear n0_ n1_; clear hb ho10) | ((with_reducible refine gate_callee (f := 8) rfl ?_); refine goesL_ (some 23) rfl rfl Try.func8 (by kernel_rfl) rfl #[.int .i64 a1, .int .i64 25] rfl (by (try simp only [List.map_toArray, List.map_cons, List.map_nil]); first | done | rfl | (simp only [List.length_drop, List.length_take]; rfl)) ?_; (with_reducible refine (K_Mod.calls a1 25 t222 _ A3.out).mono ?_); rintro e w' ⟨rfl, ⟨nd, rfl⟩⟩; refine ⟨_, rfl, ?_⟩; (try (rw [drewN_self w9]; generalize hq_ : World.drewN w9 _ = w9; have n0_ : Aside0 (Kd.R (Kd.int .i64) 3 w9 w.heap.size (fun _ => True) v220 y219) := ⟨by rw [← hq_]; exact (by (with_reducible repeat (first | apply Kd.R_alloc | apply Kd.R_drewN | apply Kd.R_drew)); exact HO221.out)⟩; have n1_ : Aside0 (Below w.heap.size w w9) := ⟨by rw [← hq_]; exact (by repeat (first | (with_reducible first | exact HB.out | apply below_alloc | apply pw_below_drewN | apply below_drew1) | exact HB.out))⟩; clear HO221 HB hq_; have HO221 := n0_; have HB := n1_; clear n0_ n1_)); obtain ⟨Ao11, co11, eo11⟩ := Kd.R_slice HO221.out; subst eo11) | ((with_reducible refine gate_callee (f := 7) rfl ?_); refine goesL_ (some 25) rfl rfl Try.func7 (by kernel_rfl) rfl #[.slice Ao11 y219.length co11, .int .i64 (wrap64 (1 + t222))] rfl (by (try simp only [List.map_toArray, List.map_cons, List.map_nil]); first | done | rfl | (simp only [List.length_drop, List.length_take]; rfl)) ?_; (with_reducible refine (key_New.calls k _ _ y219 (wrap64 (1 + t222)) t223 t226 t227 t228 _ ?side1 ?side2 A4.out).mono ?_); (case side1 => repeat (first | exact (Kd.R_reads' HO221.out).2.2 | (with_reducible refine Kd.C_alloc ?_ _) | (with_reducible refine Kd.C_drewN ?_ _) | (with_reducible refine Kd.C_drew ?_))); (case side2 => exact (Kd.R_reads' HO221.out).2.1); rintro e w12 ⟨v224, rfl, ho0, hb⟩; refine ⟨_, rfl, ?_⟩; have n0_ := Aside0.mk (Kd.R_elder' (by (with_reducible repeat (first | apply Kd.R_alloc | apply Kd.R_drewN | apply Kd.R_drew)); exact HO221.out) (Kd.R_base ho0) hb); have n1_ := Aside0.mk (Kd.R_lower (Kd.R_new' ho0 (Kd.R_lt (by (with_reducible repeat (first | apply Kd.R_alloc | apply Kd.R_drewN | apply Kd.R_drew)); exact HO221.out))) (below_size (by repeat (first | (with_reducible first | exact HB.out | apply below_alloc | apply pw_below_drewN | apply below_drew1) | exact HB.out)))); have n2_ := Aside0.mk (below_step (by repeat (first | (with_reducible first | exact HB.out | apply below_alloc | apply pw_below_drewN | apply below_drew1) | exact HB.out)) hb); clear HO221; clear HB; have HO221 := n0_; have HO225 := n1_; have HB := n2_; clear n0_ n1_ n2_; (try clear hb); (try clear hb2); (try clear hk); (try clear hi); (try clear ho0)) | ((with_reducible refine gate_dst (N := 5) rfl ?_); (try (refine gate_guard (by rfl) ?_; dsimp only)); refine box_event ?hg (N := 5) ?hd (cs := #[.slice none 0 0, .int .i64 0, .int .i64 0]) (t := 24) ?hr ?_; (case hd => rfl); (case hg => rfl); (case hr => first | (go_simp; done) | (go_simp; rfl)); intro gb229 hg w13 hbox hb; have n0_ := Aside0.mk (Kd.R_below (by (with_reducible repeat (first | apply Kd.R_alloc | apply Kd.R_drewN | apply Kd.R_drew)); exact HO221.out) hb); have n1_ := Aside0.mk (Kd.R_below (by (with_reducible repeat (first | apply Kd.R_alloc | apply Kd.R_drewN | apply Kd.R_drew)); exact HO225.out) hb); have n2_ := Aside0.mk (below_step (by repeat (first | (with_reducible first | exact HB.out | apply below_alloc | apply pw_below_drewN | apply below_drew1) | exact HB.out)) hb); have n3_ := Aside0.mk (hbox); have n4_ := Aside0.mk ((by rw [hg]; exact (below_size (by repeat (first | (with_reducible first | exact HB.out | apply below_alloc | apply pw_below_drewN | apply below_drew1) | exact HB.out))) : w.heap.size ≤ gb229)); have n5_ := Aside0.mk ((by rw [hg]; exact (below_size (by repeat (first | (with_reducible first | exact HB.out | apply below_alloc | apply pw_below_drewN | apply below_drew1) | exact HB.out))) : w.heap.size ≤ gb229)); clear HO221; clear HO225; clear HB; have HO221 := n0_; have HO225 := n1_; have HB := n2_; have BK229 := n3_; have GW229 := n4_; have GE229 := n5_; clear n0_ n1_ n2_ n3_ n4_ n5_; clear hb hbox hg; obtain ⟨Ao14, co14, eo14⟩ := Kd.R_slice HO225.out; subst eo14; have hcz15_0 : w13.cell? ⟨gb229, 0, none⟩ = some (.slice none 0 0) := (blk_cell BK229.out 0).trans rfl; have hcz15_1 : w13.cell? ⟨gb229, 1, none⟩ = some (.int .i64 0) := (blk_cell BK229.out 1).trans rfl; have hcz15_2 : w13.cell? ⟨gb229, 2, none⟩ = some (.int .i64 0) := (blk_cell BK229.out 2).trans rfl; have hfz15_0 := blk_frozen BK229.out 0; have hfz15_1 := blk_frozen BK229.out 1; have hfz15_2 := blk_frozen BK229.out 2) | ((with_reducible refine gate_callee (f := 9) rfl ?_); refine goesL_ (some 29) rfl rfl Try.func9 (by kernel_rfl) rfl #[.slice A0 l0.length c0] rfl (by (try simp only [List.map_toArray, List.map_cons, List.map_nil]); first | done | rfl | (simp only [List.length_drop, List.length_take]; rfl)) ?_; (with_reducible refine (L22_stamps.calls k _ _ l0 t230 _ ?side1 ?side2 A5.out).mono ?_); (case side1 => exact Kd.C_below HR0.out (by repeat (first | (with_reducible first | exact HB.out | apply below_alloc | apply pw_below_drewN | apply below_drew1 | refine below_set ?_ GE229.out) | exact HB.out))); (case side2 => exact HC0.out); rintro e w16 ⟨v231, rfl, ho0, hb⟩; refine ⟨_, rfl, ?_⟩; have n0_ := Aside0.mk (Kd.R_below (by (with_reducible repeat (first | apply Kd.R_alloc | apply Kd.R_drewN | apply Kd.R_drew)); exact (Kd.R_mono (Kd.R_far (p := ⟨gb229, 2, none⟩) (Kd.R_far (p := ⟨gb229, 1, none⟩) (Kd.R_far (p := ⟨gb229, 0, none⟩) (Kd.R_types HO221.out BK229.out (by decide)) (fun _ hk => hk.2) (.slice Ao14 t223.length co14)) (fun _ hk => hk.2) (.int .i64 t226)) (fun _ hk => hk.2) (.int .i64 t227)) (fun _ h_ => h_.1))) hb); have n1_ := Aside0.mk (Kd.R_below (by (with_reducible repeat (first | apply Kd.R_alloc | apply Kd.R_drewN | apply Kd.R_drew)); exact (Kd.R_mono (Kd.R_far (p := ⟨gb229, 2, none⟩) (Kd.R_far (p := ⟨gb229, 1, none⟩) (Kd.R_far (p := ⟨gb229, 0, none⟩) (Kd.R_types HO225.out BK229.out (by decide)) (fun _ hk => hk.2) (.slice Ao14 t223.length co14)) (fun _ hk => hk.2) (.int .i64 t226)) (fun _ hk => hk.2) (.int .i64 t227)) (fun _ h_ => h_.1))) hb); have n2_ := Aside0.mk (Kd.R_lower ho0 (below_size (by repeat (first | (with_reducible first | exact HB.out | apply below_alloc | apply pw_below_drewN | apply below_drew1 | refine below_set ?_ GE229.out) | exact HB.out)))); have n3_ := Aside0.mk (blk_below (g := gb229) (o := .cells #[.slice Ao14 t223.length co14, .int .i64 t226, .int .i64 t227] 24 (0, 0)) (by (with_reducible repeat (first | refine blk_drewN ?_ _ | refine blk_drew ?_ | refine blk_alloc ?_ _)); refine blk_put (cs := #[.slice Ao14 t223.length co14, .int .i64 t226, .int .i64 0]) ?_ 2 _ rfl; (with_reducible repeat (first | refine blk_drewN ?_ _ | refine blk_drew ?_ | refine blk_alloc ?_ _)); refine blk_put (cs := #[.slice Ao14 t223.length co14, .int .i64 0, .int .i64 0]) ?_ 1 _ rfl; (with_reducible repeat (first | refine blk_drewN ?_ _ | refine blk_drew ?_ | refine blk_alloc ?_ _)); refine blk_put (cs := #[.slice none 0 0, .int .i64 0, .int .i64 0]) ?_ 0 _ rfl; (with_reducible repeat (first | refine blk_drewN ?_ _ | refine blk_drew ?_ | refine blk_alloc ?_ _)); exact BK229.out) hb); have n4_ := Aside0.mk (below_step (by repeat (first | (with_reducible first | exact HB.out | apply below_alloc | apply pw_below_drewN | apply below_drew1 | refine below_set ?_ GE229.out) | exact HB.out)) hb); clear HO221; clear HO225; clear BK229; clear HB; have HO221 := n0_; have HO225 := n1_; have HO232 := n2_; have BK229 := n3_; have HB := n4_; clear n0_ n1_ n2_ n3_ n4_; (try clear hb); (try clear hb2); (try clear hk); (try clear hi); (try clear ho0); have hcz17_0 : w16.cell? ⟨gb229, 0, none⟩ = some (.slice Ao14 t223.length co14) := (blk_cell BK229.out 0).trans rfl; have hcz17_1 : w16.cell? ⟨gb229, 1, none⟩ = some (.int .i64 t226) := (blk_cell BK229.out 1).trans rfl; have hcz17_2 : w16.cell? ⟨gb229, 2, none⟩ = some (.int .i64 t227) := (blk_cell BK229.out 2).trans rfl; have hfz17_0 := blk_frozen BK229.out 0; have hfz17_1 := blk_frozen BK229.out 1; have hfz17_2 := blk_frozen BK229.out 2; obtain ⟨Ao18, co18, eo18⟩ := Kd.R_slice HO232.out; subst eo18) | ((with_reducible refine gate_callee (f := 10) rfl ?_); refine goesL_ (some 35) rfl rfl Try.func10 (by kernel_rfl) rfl #[.agg #[.slice Ao14 t223.length co14, .int .i64 t226, .int .i64 t227], .slice Ao18 t230.length co18] rfl (by (try simp only [List.map_toArray, List.map_cons, List.map_nil]); first | done | rfl | (simp only [List.length_drop, List.length_take]; rfl)) ?_; (with_reducible refine (key_Stretches.calls _ _ t223 t226 t227 _ _ t230 t233 t236 _ ?side1 ?side2 ?side3 ?side4 A7.out).mono ?_); (case side1 => repeat (first | exact (Kd.R_reads' HO225.out).2.2 | (with_reducible refine Kd.C_alloc ?_ _) | (with_reducible refine Kd.C_drewN ?_ _) | (with_reducible refine Kd.C_drew ?_))); (case side2 => exact (Kd.R_reads' HO225.out).2.1); (case side3 => repeat (first | exact (Kd.R_reads' HO232.out).2.2 | (with_reducible refine Kd.C_alloc ?_ _) | (with_reducible refine Kd.C_drewN ?_ _) | (with_reducible refine Kd.C_drew ?_))); (case side4 => exact (Kd.R_reads' HO232.out).2.1); rintro e w19 ⟨v234, rfl, ho0, hb⟩; refine ⟨_, rfl, ?_⟩; have n0_ := Aside0.mk (Kd.R_below (by (with_reducible repeat (first | apply Kd.R_alloc | apply Kd.R_drewN | apply Kd.R_drew)); exact HO221.out) hb); have n1_ := Aside0.mk (Kd.R_below (by (with_reducible repeat (first | apply Kd.R_alloc | apply Kd.R_drewN | apply Kd.R_drew)); exact HO225.out) hb); have n2_ := Aside0.mk (Kd.R_below (by (with_reducible repeat (first | apply Kd.R_alloc | apply Kd.R_drewN | apply Kd.R_drew)); exact HO232.out) hb); have n3_ := Aside0.mk (Kd.R_lower ho0 (below_size (by repeat (first | (with_reducible first | exact HB.out | apply below_alloc | apply pw_below_drewN | apply below_drew1 | refine below_set ?_ GE229.out) | exact HB.out)))); have n4_ := Aside0.mk (blk_below (g := gb229) (o := .cells #[.slice Ao14 t223.length co14, .int .i64 t226, .int .i64 t227] 24 (0, 0)) (by (with_reducible repeat (first | refine blk_drewN ?_ _ | refine blk_drew ?_ | refine blk_alloc ?_ _)); exact BK229.out) hb); have n5_ := Aside0.mk (below_step (by repeat (first | (with_reducible first | exact HB.out | apply below_alloc | apply pw_below_drewN | apply below_drew1 | refine below_set ?_ GE229.out) | exact HB.out)) hb); clear HO221; clear HO225; clear HO232; clear BK229; clear HB; have HO221 := n0_; have HO225 := n1_; have HO232 := n2_; have HO235 := n3_; have BK229 := n4_; have HB := n5_; clear n0_ n1_ n2_ n3_ n4_ n5_; (try clear hb); (try clear hb2); (try clear hk); (try clear hi); (try clear ho0)))
      go_loopg [9, 10] k (fun kq v9 v10 w' => ∃ (x9_1 : Int) (x10_1 : Int) (x230000_1 : List Int) (x230001_1 : Int) (x230002_1 : Int) (u230000 : Value), v9 = .int .i64 x9_1 ∧ v10 = .int .i64 x10_1 ∧ Aside0 (L22_KeyHistory.l0 kq t230 t233 x9_1 x10_1 x230000_1 x230001_1 x230002_1 = some true) ∧ Aside0 (kq ≤ k) ∧ Aside0 (Kd.R k37 37 w' w.heap.size (fun _ => True) (.slice Ao18 t230.length co18) t230) ∧ Aside0 (Kd.R k39 39 w' w.heap.size (fun _ => True) v234 t233) ∧ Aside0 (Kd.R (Kd.int .i64) 3 w' w.heap.size (fun _ => True) u230000 x230000_1) ∧ Aside0 (w'.heap[gb229]? = some (.cells #[u230000, .int .i64 x230001_1, .int .i64 x230002_1] 24 (0, 0))) ∧ Aside0 (Below w.heap.size w w'))
      case atStart => exact ⟨(0), (0), (t223), (t226), (t227), (.slice Ao14 t223.length co14), (by first | rfl | (simp; done) | (simp [*]; done)), (by first | rfl | (simp; done) | (simp [*]; done)), H', ⟨Nat.le_refl _⟩, ⟨by (with_reducible repeat (first | apply Kd.R_alloc | apply Kd.R_drewN | apply Kd.R_drew)); exact HO232.out⟩, ⟨by (with_reducible repeat (first | apply Kd.R_alloc | apply Kd.R_drewN | apply Kd.R_drew)); exact HO235.out⟩, ⟨by (with_reducible repeat (first | apply Kd.R_alloc | apply Kd.R_drewN | apply Kd.R_drew)); exact Kd.R_mono HO225.out (fun _ hk => trivial)⟩, ⟨by (with_reducible repeat (first | refine blk_drewN ?_ _ | refine blk_drew ?_ | refine blk_alloc ?_ _)); exact BK229.out⟩, ⟨by repeat (first | (with_reducible first | exact HB.out | apply below_alloc | apply pw_below_drewN | apply below_drew1 | refine below_set ?_ GE229.out) | exact HB.out)⟩⟩
      case round =>
        clear H'
        try clear c1
        try clear p2
        try clear c3
        try clear c6
        try clear c6b0
        try clear c6b1
        try clear p6
        try clear c7
        try clear c8
        try clear c8b0
        try clear c8b1
        try clear c9
        try clear c10
        try clear hcz15_0
        try clear hcz15_1
        try clear hcz15_2
        try clear hcz17_0
        try clear hcz17_1
        try clear hcz17_2
        try clear hfz15_0
        try clear hfz15_1
        try clear hfz15_2
        try clear hfz17_0
        try clear hfz17_1
        try clear hfz17_2
        obtain ⟨x9_1, x10_1, x230000_1, x230001_1, x230002_1, u230000, rfl, rfl, HA, HK1, HO_7, HO_8, HO_230000, BK229, HB⟩ := hrel
        cases gk with
        | zero => exact absurd HA.out (by simp [L22_KeyHistory.l0])
        | succ k1 =>
          have H := HA.out
          clear HA
          simp only [L22_KeyHistory.l0] at H
          by_cases c20 : x10_1 < (t230.length : Int)
          · rw [if_pos c20] at H
            have c20b0 : decide (x10_1 < (t230.length : Int)) = true := decide_eq_true c20
            clear c20
            by_cases c21 : 0 ≤ x10_1
            · rw [if_pos c21] at H
              have c21b0 : decide (0 ≤ x10_1) = true := decide_eq_true c21
              clear c21
              replace H := Option.bind_eq_some_iff.mp H
              obtain ⟨⟨t239, t242, t243, t244, t245⟩, A220, H⟩ := H
              replace H : (if t245 = 0 then (L22_KeyHistory.l0 k1 t230 t233 ((rd_T37 t230 x10_1).f0) (wrap64 (x10_1 + 1)) t239 t242 t243) else (some false)) = some true := H
              have A22 := Aside0.mk A220
              clear A220
              by_cases c23 : t245 = 0
              · rw [if_pos c23] at H
                have c23b0 : (t245 == 0) = true := beq_iff_eq.mpr c23
                have c23b1 : (t245 != 0) = false := bne_eq_false_iff_eq.mpr c23
                clear c23
                have H' := Aside0.mk H
                clear H
                try go_wp2
                have n0_ := Aside0.mk (Kd.R_drew HO_7.out)
                have n1_ := Aside0.mk (Kd.R_drew HO_8.out)
                have n2_ := Aside0.mk (Kd.R_drew HO_230000.out)
                have n3_ := Aside0.mk (blk_drew BK229.out)
                have n4_ := Aside0.mk (below_drew1 HB.out)
                clear HO_7
                clear HO_8
                clear HO_230000
                clear BK229
                clear HB
                have HO_7 := n0_
                have HO_8 := n1_
                have HO_230000 := n2_
                have BK229 := n3_
                have HB := n4_
                clear n0_ n1_ n2_ n3_ n4_
                have p237 : 0 ≤ (x10_1 : Int) := of_decide_eq_true (by first | (with_reducible assumption) | assumption)
                have q237 : x10_1 < (t230.length : Int) := of_decide_eq_true (by first | (with_reducible assumption) | assumption)
                obtain ⟨ad237, e237, hx237_0, hx237_1⟩ := at_T37 (Kd.R_reads' HO_7.out).2.2 x10_1 p237 q237
                cases e237
                replace p237 := eq_true p237
                replace q237 := eq_true q237
                have p238 : 0 ≤ (x10_1 : Int) := of_decide_eq_true (by first | (with_reducible assumption) | assumption)
                have q238 : x10_1 < (t230.length : Int) := of_decide_eq_true (by first | (with_reducible assumption) | assumption)
                obtain ⟨ad238, e238, hx238_0, hx238_1⟩ := at_T37 (Kd.R_reads' HO_7.out).2.2 x10_1 p238 q238
                obtain rfl : ad237 = ad238 := (by injection e238)
                replace p238 := eq_true p238
                replace q238 := eq_true q238
                obtain ⟨Ao25, co25, eo25⟩ := Kd.R_slice HO_230000.out
                (first | subst eo25 | (injection eo25 with f1_ f2_ f3_; have f4_ := f1_.symm; have f5_ := f3_.symm; clear f1_ f2_ f3_; subst f4_; subst f5_))
                refine start_ (n := 18) (S := fun w' => w'.cell? ⟨gb229, 0, none⟩ = some (.slice Ao25 x230000_1.length co25) ∧ w'.cell? ⟨gb229, 1, none⟩ = some (.int .i64 x230001_1) ∧ w'.cell? ⟨gb229, 2, none⟩ = some (.int .i64 x230002_1) ∧ w'.cell? (ad237.add ((x10_1).toNat * 2)) = some (.int .i64 ((rd_T37 t230 x10_1).f0)) ∧ w'.cell? ⟨(ad237.add ((x10_1).toNat * 2)).block, (ad237.add ((x10_1).toNat * 2)).off + 1, none⟩ = some (.int .i64 ((rd_T37 t230 x10_1).f1)) ∧ w'.cell? (ad237.add ((x10_1).toNat * 2)) = some (.int .i64 ((rd_T37 t230 x10_1).f0)) ∧ w'.cell? ⟨(ad237.add ((x10_1).toNat * 2)).block, (ad237.add ((x10_1).toNat * 2)).off + 1, none⟩ = some (.int .i64 ((rd_T37 t230 x10_1).f1))) (ds := [16]) #[false, false, false, false, false, false, false, false, false, false, false, false, false, false, false, false, false, false] (by kernel_rfl) rfl rfl ⟨(blk_cell BK229.out 0).trans rfl, (blk_cell BK229.out 1).trans rfl, (blk_cell BK229.out 2).trans rfl, hx237_0, hx237_1, hx238_0, hx238_1⟩ (fun hHeld => ?_); refine with_tabW L22_KeyHistory.tab12 L22_KeyHistory.bits12 (fun HT_ HW_ => ?_)
                generalize wr.drew = w24 at HO_7 HO_8 HO_230000 BK229 HB hx237_0 hx237_1 hx238_0 hx238_1 hHeld ⊢
                refine pure_ (i := 1) (N := some 48) (v := ?_) (a' := ?_) #[false, true, false, false, false, false, false, false, false, false, false, false, false, false, false, false, false, false] rfl rfl (any_of HT_.out (by kernel_rfl)) (fun _ _ _ h => h) (Or.inl ⟨by rfl, ?_⟩) ?_ ?_
                rotate_left
                · intro w'
                  go_simp
                  with_reducible rfl
                rotate_left
                · simp only [Act.put, List.setIfInBounds_toArray, List.set_cons_zero, List.set_cons_succ, i64_w, i32_w]
                  rfl
                refine pure_ (i := 2) (N := some 49) (v := ?_) (a' := ?_) #[false, true, true, false, false, false, false, false, false, false, false, false, false, false, false, false, false, false] rfl rfl (any_of HT_.out (by kernel_rfl)) (fun _ _ _ h => h) (Or.inl ⟨by rfl, ?_⟩) ?_ ?_
                rotate_left
                · intro w'
                  go_simp
                  with_reducible rfl
                rotate_left
                · simp only [Act.put, List.setIfInBounds_toArray, List.set_cons_zero, List.set_cons_succ, i64_w, i32_w]
                  rfl
                refine pure_ (i := 3) (N := some 50) (v := ?_) (a' := ?_) #[false, true, true, true, false, false, false, false, false, false, false, false, false, false, false, false, false, false] rfl rfl (any_of HT_.out (by kernel_rfl)) (fun _ _ _ h => h) (Or.inl ⟨by rfl, ?_⟩) ?_ ?_
                rotate_left
                · intro w'
                  go_simp
                  with_reducible rfl
                rotate_left
                · simp only [Act.put, List.setIfInBounds_toArray, List.set_cons_zero, List.set_cons_succ, i64_w, i32_w]
                  rfl
                refine pure_ (i := 4) (N := some 51) (v := ?_) (a' := ?_) #[false, true, true, true, true, false, false, false, false, false, false, false, false, false, false, false, false, false] rfl rfl (any_of HT_.out (by kernel_rfl)) (fun _ _ _ h => h) (Or.inl ⟨by rfl, ?_⟩) ?_ ?_
                rotate_left
                · intro w'
                  go_simp
                  with_reducible rfl
                rotate_left
                · simp only [Act.put, List.setIfInBounds_toArray, List.set_cons_zero, List.set_cons_succ, i64_w, i32_w]
                  rfl
                refine pure_ (i := 6) (N := some 53) (v := ?_) (a' := ?_) #[false, true, true, true, true, false, true, false, false, false, false, false, false, false, false, false, false, false] rfl rfl (any_of HT_.out (by kernel_rfl)) (fun _ _ _ h => h) (Or.inl ⟨by rfl, ?_⟩) ?_ ?_
                rotate_left
                · intro w'
                  go_simp
                  with_reducible rfl
                rotate_left
                · simp only [Act.put, List.setIfInBounds_toArray, List.set_cons_zero, List.set_cons_succ, i64_w, i32_w]
                  rfl
                refine pure_ (i := 7) (N := some 54) (v := ?_) (a' := ?_) #[false, true, true, true, true, false, true, true, false, false, false, false, false, false, false, false, false, false] rfl rfl (any_of HT_.out (by kernel_rfl)) (fun _ _ _ h => h) (Or.inl ⟨by rfl, ?_⟩) ?_ ?_
                rotate_left
                · intro w'
                  go_simp
                  with_reducible rfl
                rotate_left
                · simp only [Act.put, List.setIfInBounds_toArray, List.set_cons_zero, List.set_cons_succ, i64_w, i32_w]
                  rfl
                refine pure_ (i := 8) (N := some 55) (v := ?_) (a' := ?_) #[false, true, true, true, true, false, true, true, true, false, false, false, false, false, false, false, false, false] rfl rfl (any_of HT_.out (by kernel_rfl)) (fun _ _ _ h => h) (Or.inl ⟨by rfl, ?_⟩) ?_ ?_
                rotate_left
                · intro w'
                  go_simp
                  with_reducible rfl
                rotate_left
                · simp only [Act.put, List.setIfInBounds_toArray, List.set_cons_zero, List.set_cons_succ, i64_w, i32_w]
                  rfl
                refine pure_ (i := 9) (N := some 56) (v := ?_) (a' := ?_) #[false, true, true, true, true, false, true, true, true, true, false, false, false, false, false, false, false, false] rfl rfl (any_of HT_.out (by kernel_rfl)) (fun _ _ _ h => h) (Or.inl ⟨by rfl, ?_⟩) ?_ ?_
                rotate_left
                · intro w'
                  go_simp
                  with_reducible rfl
                rotate_left
                · simp only [Act.put, List.setIfInBounds_toArray, List.set_cons_zero, List.set_cons_succ, i64_w, i32_w]
                  rfl
                refine take_ (i := 0) (N := some 47) (v := ?_) (a' := ?_) #[true, true, true, true, true, false, true, true, true, true, false, false, false, false, false, false, false, false] rfl rfl (take_ofW HT_.out HW_.out (by kernel_rfl)) (fun _ _ _ h => h) (Or.inl ⟨by rfl, ?_⟩) hHeld ?_ ?_
                rotate_left
                · rintro w' ⟨s0, s1, s2, s3, s4, s5, s6⟩
                  go_simp
                  with_reducible rfl
                rotate_left
                · simp only [Act.put, List.setIfInBounds_toArray, List.set_cons_zero, List.set_cons_succ, i64_w, i32_w]
                  rfl
                refine take_ (i := 5) (N := some 52) (v := ?_) (a' := ?_) #[true, true, true, true, true, true, true, true, true, true, false, false, false, false, false, false, false, false] rfl rfl (take_ofW HT_.out HW_.out (by kernel_rfl)) (fun _ _ _ h => h) (Or.inl ⟨by rfl, ?_⟩) hHeld ?_ ?_
                rotate_left
                · rintro w' ⟨s0, s1, s2, s3, s4, s5, s6⟩
                  go_simp
                  with_reducible rfl
                rotate_left
                · simp only [Act.put, List.setIfInBounds_toArray, List.set_cons_zero, List.set_cons_succ, i64_w, i32_w]
                  rfl
                refine take_ (i := 10) (N := some 57) (v := ?_) (a' := ?_) #[true, true, true, true, true, true, true, true, true, true, true, false, false, false, false, false, false, false] rfl rfl (take_ofW HT_.out HW_.out (by kernel_rfl)) (fun _ _ _ h => h) (Or.inl ⟨by rfl, ?_⟩) hHeld ?_ ?_
                rotate_left
                · rintro w' ⟨s0, s1, s2, s3, s4, s5, s6⟩
                  go_simp
                  with_reducible rfl
                rotate_left
                · simp only [Act.put, List.setIfInBounds_toArray, List.set_cons_zero, List.set_cons_succ, i64_w, i32_w]
                  rfl
                refine one_ (i := 11) (N := some 58) #[true, true, true, true, true, true, true, true, true, true, true, true, false, false, false, false, false, false] rfl rfl (one_of HT_.out (by kernel_rfl)) (by decide) (fun K hK => ?_)
                refine goes_ Try.func11 (by kernel_rfl) rfl #[.agg #[.slice Ao25 x230000_1.length co25, .int .i64 x230001_1, .int .i64 x230002_1], .int .i64 ((rd_T37 t230 x10_1).f1), .int .i64 ((rd_T37 t230 x10_1).f0)] (by rfl) rfl rfl (by (try simp only [List.map_toArray, List.map_cons, List.map_nil]); first | done | rfl | (simp only [List.length_drop, List.length_take]; rfl)) ?_
                with_reducible refine (key_Present.calls k1 _ _ x230000_1 x230001_1 x230002_1 ((rd_T37 t230 x10_1).f1) ((rd_T37 t230 x10_1).f0) t239 t242 t243 t244 t245 _ ?side1 ?side2 A22.out).mono ?_
                (case side1 => repeat (first | exact (Kd.R_reads' HO_230000.out).2.2 | (with_reducible refine Kd.C_alloc ?_ _) | (with_reducible refine Kd.C_drewN ?_ _) | (with_reducible refine Kd.C_drew ?_)))
                (case side2 => exact (Kd.R_reads' HO_230000.out).2.1)
                rintro e w26 ⟨v240, rfl, ho0, hb⟩
                have HS3_ := (hb.cell (World.block_lt_of_cell? _ _ (hHeld.2.2.2.1))).trans (hHeld.2.2.2.1)
                have HS4_ := (hb.cell (World.block_lt_of_cell? _ _ (hHeld.2.2.2.2.1))).trans (hHeld.2.2.2.2.1)
                have HS5_ := (hb.cell (World.block_lt_of_cell? _ _ (hHeld.2.2.2.2.2.1))).trans (hHeld.2.2.2.2.2.1)
                have HS6_ := (hb.cell (World.block_lt_of_cell? _ _ (hHeld.2.2.2.2.2.2))).trans (hHeld.2.2.2.2.2.2)
                refine ⟨_, rfl, ?_⟩
                have n0_ := Aside0.mk (Kd.R_below (by (with_reducible repeat (first | apply Kd.R_alloc | apply Kd.R_drewN | apply Kd.R_drew)); exact HO_7.out) hb)
                have n1_ := Aside0.mk (Kd.R_below (by (with_reducible repeat (first | apply Kd.R_alloc | apply Kd.R_drewN | apply Kd.R_drew)); exact HO_8.out) hb)
                have n2_ := Aside0.mk (Kd.R_elder' (by (with_reducible repeat (first | apply Kd.R_alloc | apply Kd.R_drewN | apply Kd.R_drew)); exact HO_230000.out) (Kd.R_base ho0) hb)
                have n3_ := Aside0.mk (Kd.R_lower (Kd.R_new' ho0 (Kd.R_lt (by (with_reducible repeat (first | apply Kd.R_alloc | apply Kd.R_drewN | apply Kd.R_drew)); exact HO_230000.out))) (below_size (by repeat (first | (with_reducible first | exact HB.out | apply below_alloc | apply pw_below_drewN | apply below_drew1 | refine below_set ?_ GE229.out) | exact HB.out))))
                have n4_ := Aside0.mk (blk_below (g := gb229) (o := .cells #[.slice Ao25 x230000_1.length co25, .int .i64 x230001_1, .int .i64 x230002_1] 24 (0, 0)) (by (with_reducible repeat (first | refine blk_drewN ?_ _ | refine blk_drew ?_ | refine blk_alloc ?_ _)); exact BK229.out) hb)
                have n5_ := Aside0.mk (below_step (by repeat (first | (with_reducible first | exact HB.out | apply below_alloc | apply pw_below_drewN | apply below_drew1 | refine below_set ?_ GE229.out) | exact HB.out)) hb)
                clear HO_7
                clear HO_8
                clear HO_230000
                clear BK229
                clear HB
                have HO_7 := n0_
                have HO_8 := n1_
                have HO_230000 := n2_
                have HO241 := n3_
                have BK229 := n4_
                have HB := n5_
                clear n0_ n1_ n2_ n3_ n4_ n5_
                (try clear hb)
                (try clear hb2)
                (try clear hk)
                (try clear hi)
                (try clear ho0)
                obtain ⟨Ao27, co27, eo27⟩ := Kd.R_slice HO241.out
                (first | subst eo27 | (injection eo27 with f1_ f2_ f3_; have f4_ := f1_.symm; have f5_ := f3_.symm; clear f1_ f2_ f3_; subst f4_; subst f5_))
                refine hK.out _ _ ⟨(blk_cell BK229.out 0).trans rfl, (blk_cell BK229.out 1).trans rfl, (blk_cell BK229.out 2).trans rfl, HS3_, HS4_, HS5_, HS6_⟩ (fun hHeld => ?_)
                clear hK K
                refine norm_ (a' := ?_) ?_ ?_
                rotate_left
                · show Act.put _ (some 58) _ = _
                  simp only [Act.put, List.setIfInBounds_toArray, List.set_cons_zero, List.set_cons_succ, i64_w, i32_w]
                  rfl
                refine pure_ (i := 12) (N := some 46) (v := ?_) (a' := ?_) #[true, true, true, true, true, true, true, true, true, true, true, true, true, false, false, false, false, false] rfl rfl (any_of HT_.out (by kernel_rfl)) (fun _ _ _ h => h) (Or.inl ⟨by rfl, ?_⟩) ?_ ?_
                rotate_left
                · intro w'
                  go_simp
                  with_reducible rfl
                rotate_left
                · simp only [Act.put, List.setIfInBounds_toArray, List.set_cons_zero, List.set_cons_succ, i64_w, i32_w]
                  rfl
                refine pure_ (i := 13) (N := some 59) (v := ?_) (a' := ?_) #[true, true, true, true, true, true, true, true, true, true, true, true, true, true, false, false, false, false] rfl rfl (any_of HT_.out (by kernel_rfl)) (fun _ _ _ h => h) (Or.inl ⟨by rfl, ?_⟩) ?_ ?_
                rotate_left
                · intro w'
                  go_simp
                  with_reducible rfl
                rotate_left
                · simp only [Act.put, List.setIfInBounds_toArray, List.set_cons_zero, List.set_cons_succ, i64_w, i32_w]
                  rfl
                refine pure_ (i := 14) (N := some 60) (v := ?_) (a' := ?_) #[true, true, true, true, true, true, true, true, true, true, true, true, true, true, true, false, false, false] rfl rfl (any_of HT_.out (by kernel_rfl)) (fun _ _ _ h => h) (Or.inl ⟨by rfl, ?_⟩) ?_ ?_
                rotate_left
                · intro w'
                  go_simp
                  with_reducible rfl
                rotate_left
                · simp only [Act.put, List.setIfInBounds_toArray, List.set_cons_zero, List.set_cons_succ, i64_w, i32_w]
                  rfl
                refine pure_ (i := 15) (N := some 61) (v := ?_) (a' := ?_) #[true, true, true, true, true, true, true, true, true, true, true, true, true, true, true, true, false, false] rfl rfl (any_of HT_.out (by kernel_rfl)) (fun _ _ _ h => h) (Or.inl ⟨by rfl, ?_⟩) ?_ ?_
                rotate_left
                · intro w'
                  go_simp
                  with_reducible rfl
                rotate_left
                · simp only [Act.put, List.setIfInBounds_toArray, List.set_cons_zero, List.set_cons_succ, i64_w, i32_w]
                  rfl
                refine last_ (i := 16) (N := none) #[true, true, true, true, true, true, true, true, true, true, true, true, true, true, true, true, true, false] rfl rfl (one_of HT_.out (by kernel_rfl)) (by decide) (fun K hK => ?_)
                have hs28 : w26.cell? ⟨gb229, 0, none⟩ = some (.slice Ao25 x230000_1.length co25) := (blk_cell BK229.out 0).trans rfl
                have hfs28 := blk_frozen BK229.out 0
                have hs29 : w26.cell? ⟨gb229, 1, none⟩ = some (.int .i64 x230001_1) := (blk_cell BK229.out 1).trans rfl
                have hfs29 := blk_frozen BK229.out 1
                have hs30 : w26.cell? ⟨gb229, 2, none⟩ = some (.int .i64 x230002_1) := (blk_cell BK229.out 2).trans rfl
                have hfs30 := blk_frozen BK229.out 2
                refine skip_ (w1 := ?_) (by rfl) rfl ?_ ?_
                rotate_left
                · go_simp
                  rfl
                refine hK.out _ _ ?_
                clear hK K
                refine pure_ (i := 17) (N := some 6) (v := ?_) (a' := ?_) #[true, true, true, true, true, true, true, true, true, true, true, true, true, true, true, true, true, true] rfl rfl (any_of HT_.out (by kernel_rfl)) (fun _ _ _ h => h) (Or.inl ⟨by rfl, ?_⟩) ?_ ?_
                rotate_left
                · intro w'
                  go_simp
                  with_reducible rfl
                rotate_left
                · simp only [Act.put, List.setIfInBounds_toArray, List.set_cons_zero, List.set_cons_succ, i64_w, i32_w]
                  rfl
                refine done_ (done_of HT_.out (by kernel_rfl)) ?_
                have p246 : 0 ≤ (x10_1 : Int) := of_decide_eq_true (by first | (with_reducible assumption) | assumption)
                have q246 : x10_1 < (t230.length : Int) := of_decide_eq_true (by first | (with_reducible assumption) | assumption)
                obtain ⟨ad246, e246, hx246_0, hx246_1⟩ := at_T37 (Kd.R_reads' HO_7.out).2.2 x10_1 p246 q246
                obtain rfl : ad237 = ad246 := (by injection e246)
                have hn246_0 : ad237.block ≠ gb229 := Kd.own_blk (Kd.R_ne HO_7.out BK229.out (by decide))
                have hn246_1 : ad237.block ≠ gb229 := Kd.own_blk (Kd.R_ne HO_7.out BK229.out (by decide))
                have hn246_2 : ad237.block ≠ gb229 := Kd.own_blk (Kd.R_ne HO_7.out BK229.out (by decide))
                replace hx246_0 := (cell_far (p := ⟨gb229, 0, none⟩) (by first | (rw [add_block]; exact hn246_0) | (show (Addr.add _ _).block ≠ _; rw [add_block]; exact hn246_0) | exact hn246_0) (.slice Ao27 t239.length co27)).trans hx246_0
                replace hx246_1 := (cell_far (p := ⟨gb229, 0, none⟩) (by first | (rw [add_block]; exact hn246_0) | (show (Addr.add _ _).block ≠ _; rw [add_block]; exact hn246_0) | exact hn246_0) (.slice Ao27 t239.length co27)).trans hx246_1
                replace hx246_0 := (cell_far (p := ⟨gb229, 1, none⟩) (by first | (rw [add_block]; exact hn246_1) | (show (Addr.add _ _).block ≠ _; rw [add_block]; exact hn246_1) | exact hn246_1) (.int .i64 t242)).trans hx246_0
                replace hx246_1 := (cell_far (p := ⟨gb229, 1, none⟩) (by first | (rw [add_block]; exact hn246_1) | (show (Addr.add _ _).block ≠ _; rw [add_block]; exact hn246_1) | exact hn246_1) (.int .i64 t242)).trans hx246_1
                replace hx246_0 := (cell_far (p := ⟨gb229, 2, none⟩) (by first | (rw [add_block]; exact hn246_2) | (show (Addr.add _ _).block ≠ _; rw [add_block]; exact hn246_2) | exact hn246_2) (.int .i64 t243)).trans hx246_0
                replace hx246_1 := (cell_far (p := ⟨gb229, 2, none⟩) (by first | (rw [add_block]; exact hn246_2) | (show (Addr.add _ _).block ≠ _; rw [add_block]; exact hn246_2) | exact hn246_2) (.int .i64 t243)).trans hx246_1
                clear hn246_0
                clear hn246_1
                clear hn246_2
                replace p246 := eq_true p246
                replace q246 := eq_true q246
                try go_wp2
                go_roundg k1
                case measure => have := HK1.out; omega
                case rel => exact ⟨((rd_T37 t230 x10_1).f0), (wrap64 (x10_1 + 1)), (t239), (t242), (t243), (.slice Ao27 t239.length co27), (by first | rfl | (simp; done) | (simp [*]; done)), (by first | rfl | (simp; done) | (simp [*]; done)), H', ⟨by have := HK1.out; omega⟩, ⟨by (with_reducible repeat (first | apply Kd.R_alloc | apply Kd.R_drewN | apply Kd.R_drew)); exact Kd.R_mono (Kd.R_far (p := ⟨gb229, 2, none⟩) (Kd.R_far (p := ⟨gb229, 1, none⟩) (Kd.R_far (p := ⟨gb229, 0, none⟩) (Kd.R_types HO_7.out BK229.out (by decide)) (fun _ hk => hk.2) (.slice Ao27 t239.length co27)) (fun _ hk => hk.2) (.int .i64 t242)) (fun _ hk => hk.2) (.int .i64 t243)) (fun _ hk => trivial)⟩, ⟨by (with_reducible repeat (first | apply Kd.R_alloc | apply Kd.R_drewN | apply Kd.R_drew)); exact Kd.R_mono (Kd.R_far (p := ⟨gb229, 2, none⟩) (Kd.R_far (p := ⟨gb229, 1, none⟩) (Kd.R_far (p := ⟨gb229, 0, none⟩) (Kd.R_types HO_8.out BK229.out (by decide)) (fun _ hk => hk.2) (.slice Ao27 t239.length co27)) (fun _ hk => hk.2) (.int .i64 t242)) (fun _ hk => hk.2) (.int .i64 t243)) (fun _ hk => trivial)⟩, ⟨by (with_reducible repeat (first | apply Kd.R_alloc | apply Kd.R_drewN | apply Kd.R_drew)); exact Kd.R_mono (Kd.R_far (p := ⟨gb229, 2, none⟩) (Kd.R_far (p := ⟨gb229, 1, none⟩) (Kd.R_far (p := ⟨gb229, 0, none⟩) (Kd.R_types HO241.out BK229.out (by decide)) (fun _ hk => hk.2) (.slice Ao27 t239.length co27)) (fun _ hk => hk.2) (.int .i64 t242)) (fun _ hk => hk.2) (.int .i64 t243)) (fun _ hk => trivial)⟩, ⟨by (with_reducible repeat (first | refine blk_drewN ?_ _ | refine blk_drew ?_ | refine blk_alloc ?_ _)); refine blk_put (cs := #[.slice Ao27 t239.length co27, .int .i64 t242, .int .i64 x230002_1]) ?_ 2 _ rfl; (with_reducible repeat (first | refine blk_drewN ?_ _ | refine blk_drew ?_ | refine blk_alloc ?_ _)); refine blk_put (cs := #[.slice Ao27 t239.length co27, .int .i64 x230001_1, .int .i64 x230002_1]) ?_ 1 _ rfl; (with_reducible repeat (first | refine blk_drewN ?_ _ | refine blk_drew ?_ | refine blk_alloc ?_ _)); refine blk_put (cs := #[.slice Ao25 x230000_1.length co25, .int .i64 x230001_1, .int .i64 x230002_1]) ?_ 0 _ rfl; (with_reducible repeat (first | refine blk_drewN ?_ _ | refine blk_drew ?_ | refine blk_alloc ?_ _)); exact BK229.out⟩, ⟨by repeat (first | (with_reducible first | exact HB.out | apply below_alloc | apply pw_below_drewN | apply below_drew1 | refine below_set ?_ GE229.out) | exact HB.out)⟩⟩
              · rw [if_neg c23] at H
                have c23b0 : (t245 == 0) = false := beq_eq_false_iff_ne.mpr c23
                have c23b1 : (t245 != 0) = true := bne_iff_ne.mpr c23
                exact absurd H (by repeat (first | exact never_none | exact never_false | refine never_ite ?_ ?_ | refine never_bind (fun _ => ?_)))
            · rw [if_neg c21] at H
              exact absurd H (by repeat (first | exact never_none | exact never_false | refine never_ite ?_ ?_ | refine never_bind (fun _ => ?_)))
          · rw [if_neg c20] at H
            have c20b0 : decide (x10_1 < (t230.length : Int)) = false := decide_eq_false c20
            clear c20
            have H' := Aside0.mk H
            clear H
            go_wp2
            go_loopg [11] k1 (fun kq v11 w' => ∃ (x11_2 : Int), v11 = .int .i64 x11_2 ∧ Aside0 (L22_KeyHistory.l1 kq t233 x9_1 x11_2 x230000_1 x230001_1 x230002_1 = some true) ∧ Aside0 (kq ≤ k1) ∧ Aside0 (Kd.R k39 39 w' w.heap.size (fun _ => True) v234 t233) ∧ Aside0 (Kd.R (Kd.int .i64) 3 w' w.heap.size (fun _ => True) u230000 x230000_1) ∧ Aside0 (w'.heap[gb229]? = some (.cells #[u230000, .int .i64 x230001_1, .int .i64 x230002_1] 24 (0, 0))) ∧ Aside0 (Below w.heap.size w w'))
            case atStart => exact ⟨(x9_1), (by first | rfl | (simp; done) | (simp [*]; done)), H', ⟨Nat.le_refl _⟩, ⟨by (with_reducible repeat (first | apply Kd.R_alloc | apply Kd.R_drewN | apply Kd.R_drew)); exact HO_8.out⟩, ⟨by (with_reducible repeat (first | apply Kd.R_alloc | apply Kd.R_drewN | apply Kd.R_drew)); exact HO_230000.out⟩, ⟨by (with_reducible repeat (first | refine blk_drewN ?_ _ | refine blk_drew ?_ | refine blk_alloc ?_ _)); exact BK229.out⟩, ⟨by repeat (first | (with_reducible first | exact HB.out | apply below_alloc | apply pw_below_drewN | apply below_drew1 | refine below_set ?_ GE229.out) | exact HB.out)⟩⟩
            case round =>
              clear H'
              try clear c1
              try clear c2
              try clear p2
              try clear q2
              try clear hx2
              try clear c3
              try clear c6
              try clear c6b0
              try clear c6b1
              try clear p6
              try clear c7
              try clear c8
              try clear c8b0
              try clear c8b1
              try clear c9
              try clear c10
              try clear c11
              try clear c20
              try clear c20b0
              try clear c21
              try clear c21b0
              try clear c23
              try clear c23b0
              try clear c23b1
              try clear p23
              try clear q23
              try clear hx23
              try clear p24
              try clear q24
              try clear hx24
              try clear hcz15_0
              try clear hcz15_1
              try clear hcz15_2
              try clear hcz17_0
              try clear hcz17_1
              try clear hcz17_2
              try clear hfz15_0
              try clear hfz15_1
              try clear hfz15_2
              try clear hfz17_0
              try clear hfz17_1
              try clear hfz17_2
              try clear hx237_0
              try clear hx237_1
              try clear hx238_0
              try clear hx238_1
              try clear hx246_0
              try clear hx246_1
              try clear p2
              try clear p237
              try clear p238
              try clear p246
              try clear p6
              try clear q237
              try clear q238
              try clear q246
              obtain ⟨x11_2, rfl, HA, HK2, HO_8, HO_230000, BK229, HB⟩ := hrel
              cases gk with
              | zero => exact absurd HA.out (by simp [L22_KeyHistory.l1])
              | succ k2 =>
                have H := HA.out
                clear HA
                simp only [L22_KeyHistory.l1] at H
                by_cases c31 : x11_2 < (wrap64 (x9_1 + 60))
                · rw [if_pos c31] at H
                  have c31b0 : decide (x11_2 < (wrap64 (x9_1 + 60))) = true := decide_eq_true c31
                  clear c31
                  have H' := Aside0.mk H
                  clear H
                  go_wp2
                  go_loopg [12, 13] k2 (fun kq v12 v13 w' => ∃ (x12_3 : Bool) (x13_3 : Int), v12 = .bool x12_3 ∧ v13 = .int .i64 x13_3 ∧ Aside0 (L22_KeyHistory.l2 kq t233 x9_1 x11_2 x12_3 x13_3 x230000_1 x230001_1 x230002_1 = some true) ∧ Aside0 (kq ≤ k2) ∧ Aside0 (Kd.R k39 39 w' w.heap.size (fun _ => True) v234 t233) ∧ Aside0 (Kd.R (Kd.int .i64) 3 w' w.heap.size (fun _ => True) u230000 x230000_1) ∧ Aside0 (w'.heap[gb229]? = some (.cells #[u230000, .int .i64 x230001_1, .int .i64 x230002_1] 24 (0, 0))) ∧ Aside0 (Below w.heap.size w w'))
                  case atStart => exact ⟨(false), (0), (by first | rfl | (simp; done) | (simp [*]; done)), (by first | rfl | (simp; done) | (simp [*]; done)), H', ⟨Nat.le_refl _⟩, ⟨by (with_reducible repeat (first | apply Kd.R_alloc | apply Kd.R_drewN | apply Kd.R_drew)); exact HO_8.out⟩, ⟨by (with_reducible repeat (first | apply Kd.R_alloc | apply Kd.R_drewN | apply Kd.R_drew)); exact HO_230000.out⟩, ⟨by (with_reducible repeat (first | refine blk_drewN ?_ _ | refine blk_drew ?_ | refine blk_alloc ?_ _)); exact BK229.out⟩, ⟨by repeat (first | (with_reducible first | exact HB.out | apply below_alloc | apply pw_below_drewN | apply below_drew1 | refine below_set ?_ GE229.out) | exact HB.out)⟩⟩
                  case round =>
                    clear H'
                    try clear c1
                    try clear c2
                    try clear p2
                    try clear q2
                    try clear hx2
                    try clear c3
                    try clear c6
                    try clear c6b0
                    try clear c6b1
                    try clear p6
                    try clear c7
                    try clear c8
                    try clear c8b0
                    try clear c8b1
                    try clear c9
                    try clear c10
                    try clear c11
                    try clear c20
                    try clear c20b0
                    try clear c21
                    try clear c21b0
                    try clear c23
                    try clear c23b0
                    try clear c23b1
                    try clear p23
                    try clear q23
                    try clear hx23
                    try clear p24
                    try clear q24
                    try clear hx24
                    try clear c31
                    try clear c31b0
                    try clear hcz15_0
                    try clear hcz15_1
                    try clear hcz15_2
                    try clear hcz17_0
                    try clear hcz17_1
                    try clear hcz17_2
                    try clear hfz15_0
                    try clear hfz15_1
                    try clear hfz15_2
                    try clear hfz17_0
                    try clear hfz17_1
                    try clear hfz17_2
                    try clear hx237_0
                    try clear hx237_1
                    try clear hx238_0
                    try clear hx238_1
                    try clear hx246_0
                    try clear hx246_1
                    try clear p2
                    try clear p23
                    try clear p237
                    try clear p238
                    try clear p24
                    try clear p246
                    try clear p6
                    try clear q2
                    try clear q23
                    try clear q237
                    try clear q238
                    try clear q24
                    try clear q246
                    obtain ⟨x12_3, x13_3, rfl, rfl, HA, HK3, HO_8, HO_230000, BK229, HB⟩ := hrel
                    cases gk with
                    | zero => exact absurd HA.out (by simp [L22_KeyHistory.l2])
                    | succ k3 =>
                      have H := HA.out
                      clear HA
                      simp only [L22_KeyHistory.l2] at H
                      by_cases c32 : x13_3 < (t233.length : Int)
                      · rw [if_pos c32] at H
                        have c32b0 : decide (x13_3 < (t233.length : Int)) = true := decide_eq_true c32
                        clear c32
                        by_cases c33 : x12_3 = true
                        · subst c33
                          have H1 : (L22_KeyHistory.l2 k3 t233 x9_1 x11_2 true (wrap64 (x13_3 + 1)) x230000_1 x230001_1 x230002_1) = some true := by rw [if_pos rfl] at H; exact H
                          clear H
                          have H := H1
                          clear H1
                          have H' := Aside0.mk H
                          clear H
                          obtain ⟨Ao34, co34, eo34⟩ := Kd.R_slice HO_8.out
                          subst eo34
                          go_wp2
                          go_roundg k3
                          case measure => have := HK1.out; have := HK2.out; have := HK3.out; omega
                          case rel => exact ⟨(true), (wrap64 (x13_3 + 1)), (by first | rfl | (simp; done) | (simp [*]; done)), (by first | rfl | (simp; done) | (simp [*]; done)), H', ⟨by have := HK1.out; have := HK2.out; have := HK3.out; omega⟩, ⟨by (with_reducible repeat (first | apply Kd.R_alloc | apply Kd.R_drewN | apply Kd.R_drew)); exact HO_8.out⟩, ⟨by (with_reducible repeat (first | apply Kd.R_alloc | apply Kd.R_drewN | apply Kd.R_drew)); exact HO_230000.out⟩, ⟨by (with_reducible repeat (first | refine blk_drewN ?_ _ | refine blk_drew ?_ | refine blk_alloc ?_ _)); exact BK229.out⟩, ⟨by repeat (first | (with_reducible first | exact HB.out | apply below_alloc | apply pw_below_drewN | apply below_drew1 | refine below_set ?_ GE229.out) | exact HB.out)⟩⟩
                        · replace c33 := Bool.eq_false_iff.mpr c33
                          subst c33
                          have H1 : (if 0 ≤ x13_3 then (if ((rd_T39 t233 x13_3).f0) ≤ x11_2 then (L22_KeyHistory.l2 k3 t233 x9_1 x11_2 (decide (x11_2 < ((rd_T39 t233 x13_3).f1))) (wrap64 (x13_3 + 1)) x230000_1 x230001_1 x230002_1) else (L22_KeyHistory.l2 k3 t233 x9_1 x11_2 false (wrap64 (x13_3 + 1)) x230000_1 x230001_1 x230002_1)) else (none)) = some true := by rw [if_neg (show ¬ (false = true) by decide)] at H; exact H
                          clear H
                          have H := H1
                          clear H1
                          by_cases c35 : 0 ≤ x13_3
                          · rw [if_pos c35] at H
                            have c35b0 : decide (0 ≤ x13_3) = true := decide_eq_true c35
                            clear c35
                            by_cases c36 : ((rd_T39 t233 x13_3).f0) ≤ x11_2
                            · rw [if_pos c36] at H
                              have c36b0 : decide (((rd_T39 t233 x13_3).f0) ≤ x11_2) = true := decide_eq_true c36
                              clear c36
                              have H' := Aside0.mk H
                              clear H
                              obtain ⟨Ao37, co37, eo37⟩ := Kd.R_slice HO_8.out
                              subst eo37
                              have p248 : 0 ≤ (x13_3 : Int) := of_decide_eq_true (by first | (with_reducible assumption) | assumption)
                              have q248 : x13_3 < (t233.length : Int) := of_decide_eq_true (by first | (with_reducible assumption) | assumption)
                              obtain ⟨ad248, e248, hx248_0, hx248_1⟩ := at_T39 (Kd.R_reads' HO_8.out).2.2 x13_3 p248 q248
                              cases e248
                              replace p248 := eq_true p248
                              replace q248 := eq_true q248
                              have p249 : 0 ≤ (x13_3 : Int) := of_decide_eq_true (by first | (with_reducible assumption) | assumption)
                              have q249 : x13_3 < (t233.length : Int) := of_decide_eq_true (by first | (with_reducible assumption) | assumption)
                              obtain ⟨ad249, e249, hx249_0, hx249_1⟩ := at_T39 (Kd.R_reads' HO_8.out).2.2 x13_3 p249 q249
                              obtain rfl : ad248 = ad249 := (by injection e249)
                              replace p249 := eq_true p249
                              replace q249 := eq_true q249
                              go_wp2
                              go_roundg k3
                              case measure => have := HK1.out; have := HK2.out; have := HK3.out; omega
                              case rel => exact ⟨(decide (x11_2 < ((rd_T39 t233 x13_3).f1))), (wrap64 (x13_3 + 1)), (by first | rfl | (simp; done) | (simp [*]; done)), (by first | rfl | (simp; done) | (simp [*]; done)), H', ⟨by have := HK1.out; have := HK2.out; have := HK3.out; omega⟩, ⟨by (with_reducible repeat (first | apply Kd.R_alloc | apply Kd.R_drewN | apply Kd.R_drew)); exact HO_8.out⟩, ⟨by (with_reducible repeat (first | apply Kd.R_alloc | apply Kd.R_drewN | apply Kd.R_drew)); exact HO_230000.out⟩, ⟨by (with_reducible repeat (first | refine blk_drewN ?_ _ | refine blk_drew ?_ | refine blk_alloc ?_ _)); exact BK229.out⟩, ⟨by repeat (first | (with_reducible first | exact HB.out | apply below_alloc | apply pw_below_drewN | apply below_drew1 | refine below_set ?_ GE229.out) | exact HB.out)⟩⟩
                            · rw [if_neg c36] at H
                              have c36b0 : decide (((rd_T39 t233 x13_3).f0) ≤ x11_2) = false := decide_eq_false c36
                              clear c36
                              have H' := Aside0.mk H
                              clear H
                              obtain ⟨Ao38, co38, eo38⟩ := Kd.R_slice HO_8.out
                              subst eo38
                              have p248 : 0 ≤ (x13_3 : Int) := of_decide_eq_true (by first | (with_reducible assumption) | assumption)
                              have q248 : x13_3 < (t233.length : Int) := of_decide_eq_true (by first | (with_reducible assumption) | assumption)
                              obtain ⟨ad248, e248, hx248_0, hx248_1⟩ := at_T39 (Kd.R_reads' HO_8.out).2.2 x13_3 p248 q248
                              cases e248
                              replace p248 := eq_true p248
                              replace q248 := eq_true q248
                              go_wp2
                              go_roundg k3
                              case measure => have := HK1.out; have := HK2.out; have := HK3.out; omega
                              case rel => exact ⟨(false), (wrap64 (x13_3 + 1)), (by first | rfl | (simp; done) | (simp [*]; done)), (by first | rfl | (simp; done) | (simp [*]; done)), H', ⟨by have := HK1.out; have := HK2.out; have := HK3.out; omega⟩, ⟨by (with_reducible repeat (first | apply Kd.R_alloc | apply Kd.R_drewN | apply Kd.R_drew)); exact HO_8.out⟩, ⟨by (with_reducible repeat (first | apply Kd.R_alloc | apply Kd.R_drewN | apply Kd.R_drew)); exact HO_230000.out⟩, ⟨by (with_reducible repeat (first | refine blk_drewN ?_ _ | refine blk_drew ?_ | refine blk_alloc ?_ _)); exact BK229.out⟩, ⟨by repeat (first | (with_reducible first | exact HB.out | apply below_alloc | apply pw_below_drewN | apply below_drew1 | refine below_set ?_ GE229.out) | exact HB.out)⟩⟩
                          · rw [if_neg c35] at H
                            exact absurd H (by repeat (first | exact never_none | exact never_false | refine never_ite ?_ ?_ | refine never_bind (fun _ => ?_)))
                      · rw [if_neg c32] at H
                        have c32b0 : decide (x13_3 < (t233.length : Int)) = false := decide_eq_false c32
                        clear c32
                        replace H := Option.bind_eq_some_iff.mp H
                        obtain ⟨⟨t250, t251⟩, A390, H⟩ := H
                        replace H : ((key_Left.f k3 x230000_1 x230001_1 x230002_1 x11_2).bind fun bt252 => ((key_Left.f k3 x230000_1 x230001_1 x230002_1 (wrap64 (x11_2 + 1))).bind fun bt254 => (if t251 = 0 then (if bt252.2 = 0 then (if bt254.2 = 0 then (if (t250 != x12_3) = true then (some false) else (if bt252.1 > x230001_1 then (some false) else (if bt254.1 = (mx 0 (wrap64 (bt252.1 - 1))) then (if ((decide (bt252.1 > 0)) != t250) = true then (some false) else (L22_KeyHistory.l1 k3 t233 x9_1 (wrap64 (x11_2 + 1)) x230000_1 x230001_1 x230002_1)) else (some false)))) else (some false)) else (some false)) else (some false)))) = some true := H
                        have A39 := Aside0.mk A390
                        clear A390
                        replace H := Option.bind_eq_some_iff.mp H
                        obtain ⟨⟨t252, t253⟩, A400, H⟩ := H
                        replace H : ((key_Left.f k3 x230000_1 x230001_1 x230002_1 (wrap64 (x11_2 + 1))).bind fun bt254 => (if t251 = 0 then (if t253 = 0 then (if bt254.2 = 0 then (if (t250 != x12_3) = true then (some false) else (if t252 > x230001_1 then (some false) else (if bt254.1 = (mx 0 (wrap64 (t252 - 1))) then (if ((decide (t252 > 0)) != t250) = true then (some false) else (L22_KeyHistory.l1 k3 t233 x9_1 (wrap64 (x11_2 + 1)) x230000_1 x230001_1 x230002_1)) else (some false)))) else (some false)) else (some false)) else (some false))) = some true := H
                        have A40 := Aside0.mk A400
                        clear A400
                        replace H := Option.bind_eq_some_iff.mp H
                        obtain ⟨⟨t254, t255⟩, A410, H⟩ := H
                        replace H : (if t251 = 0 then (if t253 = 0 then (if t255 = 0 then (if (t250 != x12_3) = true then (some false) else (if t252 > x230001_1 then (some false) else (if t254 = (mx 0 (wrap64 (t252 - 1))) then (if ((decide (t252 > 0)) != t250) = true then (some false) else (L22_KeyHistory.l1 k3 t233 x9_1 (wrap64 (x11_2 + 1)) x230000_1 x230001_1 x230002_1)) else (some false)))) else (some false)) else (some false)) else (some false)) = some true := H
                        have A41 := Aside0.mk A410
                        clear A410
                        by_cases c42 : t251 = 0
                        · rw [if_pos c42] at H
                          have c42b0 : (t251 == 0) = true := beq_iff_eq.mpr c42
                          have c42b1 : (t251 != 0) = false := bne_eq_false_iff_eq.mpr c42
                          clear c42
                          by_cases c43 : t253 = 0
                          · rw [if_pos c43] at H
                            have c43b0 : (t253 == 0) = true := beq_iff_eq.mpr c43
                            have c43b1 : (t253 != 0) = false := bne_eq_false_iff_eq.mpr c43
                            clear c43
                            by_cases c44 : t255 = 0
                            · rw [if_pos c44] at H
                              have c44b0 : (t255 == 0) = true := beq_iff_eq.mpr c44
                              have c44b1 : (t255 != 0) = false := bne_eq_false_iff_eq.mpr c44
                              clear c44
                              by_cases c45 : (t250 != x12_3) = true
                              · rw [if_pos c45] at H
                                have c45b0 : (t250 != x12_3) = true := c45
                                (try (have c45b1 : decide (t250 = x12_3) = false := by simpa using c45))
                                (try (have c45b2 : (t250 == x12_3) = false := by simpa using c45))
                                (try (have c45b3 : ¬ (t250 = x12_3) := by simpa using c45))
                                clear c45
                                exact absurd H (by repeat (first | exact never_none | exact never_false | refine never_ite ?_ ?_ | refine never_bind (fun _ => ?_)))
                              · rw [if_neg c45] at H
                                have c45b0 : (t250 != x12_3) = false := by simpa using c45
                                (try (have c45b1 : decide (t250 = x12_3) = true := by simpa using c45))
                                (try (have c45b2 : (t250 == x12_3) = true := by simpa using c45))
                                clear c45
                                by_cases c46 : t252 > x230001_1
                                · rw [if_pos c46] at H
                                  have c46b0 : decide (x230001_1 < t252) = true := decide_eq_true c46
                                  clear c46
                                  exact absurd H (by repeat (first | exact never_none | exact never_false | refine never_ite ?_ ?_ | refine never_bind (fun _ => ?_)))
                                · rw [if_neg c46] at H
                                  have c46b0 : decide (x230001_1 < t252) = false := decide_eq_false c46
                                  clear c46
                                  obtain ⟨ji47, hji47⟩ : ∃ j_ : Int, (mx 0 (wrap64 (t252 - 1))) = j_ := ⟨_, rfl⟩
                                  replace H : (if t254 = (ji47) then (if ((decide (t252 > 0)) != t250) = true then (some false) else (L22_KeyHistory.l1 k3 t233 x9_1 (wrap64 (x11_2 + 1)) x230000_1 x230001_1 x230002_1)) else (some false)) = some true := by first | (rw [hji47] at H; exact H) | (simp only [hji47] at H ⊢; exact H)
                                  (try rw [hji47] at A39)
                                  (try rw [hji47] at A40)
                                  (try rw [hji47] at A41)
                                  (try (have hji47l : 0 ≤ ji47 := by (rw [← hji47]; unfold mx; (repeat' split) <;> omega)))
                                  (try (have hji47m : 0 ≤ ji47 := by omega))
                                  have hji47_ : (if 0 < (wrap64 (t252 - 1)) then (wrap64 (t252 - 1)) else 0) = ji47 := hji47
                                  by_cases c48 : t254 = (ji47)
                                  · rw [if_pos c48] at H
                                    have c48b0 : (t254 == (ji47)) = true := beq_iff_eq.mpr c48
                                    have c48b1 : (t254 != (ji47)) = false := bne_eq_false_iff_eq.mpr c48
                                    clear c48
                                    by_cases c49 : ((decide (t252 > 0)) != t250) = true
                                    · rw [if_pos c49] at H
                                      have c49b0 : ((decide (t252 > 0)) != t250) = true := c49
                                      (try (have c49b1 : decide ((decide (t252 > 0)) = t250) = false := by simpa using c49))
                                      (try (have c49b2 : ((decide (t252 > 0)) == t250) = false := by simpa using c49))
                                      (try (have c49b3 : ¬ ((decide (t252 > 0)) = t250) := by simpa using c49))
                                      clear c49
                                      exact absurd H (by repeat (first | exact never_none | exact never_false | refine never_ite ?_ ?_ | refine never_bind (fun _ => ?_)))
                                    · rw [if_neg c49] at H
                                      have c49b0 : ((decide (t252 > 0)) != t250) = false := by simpa using c49
                                      (try (have c49b1 : decide ((decide (t252 > 0)) = t250) = true := by simpa using c49))
                                      (try (have c49b2 : ((decide (t252 > 0)) == t250) = true := by simpa using c49))
                                      clear c49
                                      have H' := Aside0.mk H
                                      clear H
                                      obtain ⟨Ao50, co50, eo50⟩ := Kd.R_slice HO_8.out
                                      subst eo50
                                      have hcz51_0 : wr.cell? ⟨gb229, 0, none⟩ = some (u230000) := (blk_cell BK229.out 0).trans rfl
                                      have hcz51_1 : wr.cell? ⟨gb229, 1, none⟩ = some (.int .i64 x230001_1) := (blk_cell BK229.out 1).trans rfl
                                      have hcz51_2 : wr.cell? ⟨gb229, 2, none⟩ = some (.int .i64 x230002_1) := (blk_cell BK229.out 2).trans rfl
                                      have hfz51_0 := blk_frozen BK229.out 0
                                      have hfz51_1 := blk_frozen BK229.out 1
                                      have hfz51_2 := blk_frozen BK229.out 2
                                      obtain ⟨Ao52, co52, eo52⟩ := Kd.R_slice HO_230000.out
                                      subst eo52
                                      go_wp2_with (first | ((with_reducible refine gate_callee (f := 12) rfl ?_); refine goesL_ (some 104) rfl rfl Try.func12 (by kernel_rfl) rfl #[.agg #[.slice Ao52 x230000_1.length co52, .int .i64 x230001_1, .int .i64 x230002_1], .int .i64 x11_2] rfl (by (try simp only [List.map_toArray, List.map_cons, List.map_nil]); first | done | rfl | (simp only [List.length_drop, List.length_take]; rfl)) ?_; (with_reducible refine (key_Valid.calls k3 _ _ x230000_1 x230001_1 x230002_1 x11_2 t250 t251 _ ?side1 ?side2 A39.out).mono ?_); (case side1 => repeat (first | exact (Kd.R_reads' HO_230000.out).2.2 | (with_reducible refine Kd.C_alloc ?_ _) | (with_reducible refine Kd.C_drewN ?_ _) | (with_reducible refine Kd.C_drew ?_))); (case side2 => exact (Kd.R_reads' HO_230000.out).2.1); rintro e w53 ⟨rfl, hb⟩; refine ⟨_, rfl, ?_⟩; have n0_ := Aside0.mk (Kd.R_below (by (with_reducible repeat (first | apply Kd.R_alloc | apply Kd.R_drewN | apply Kd.R_drew)); exact HO_8.out) hb); have n1_ := Aside0.mk (Kd.R_below (by (with_reducible repeat (first | apply Kd.R_alloc | apply Kd.R_drewN | apply Kd.R_drew)); exact HO_230000.out) hb); have n2_ := Aside0.mk (blk_below (g := gb229) (o := .cells #[.slice Ao52 x230000_1.length co52, .int .i64 x230001_1, .int .i64 x230002_1] 24 (0, 0)) (by (with_reducible repeat (first | refine blk_drewN ?_ _ | refine blk_drew ?_ | refine blk_alloc ?_ _)); exact BK229.out) hb); have n3_ := Aside0.mk (below_step (by repeat (first | (with_reducible first | exact HB.out | apply below_alloc | apply pw_below_drewN | apply below_drew1 | refine below_set ?_ GE229.out) | exact HB.out)) hb); clear HO_8; clear HO_230000; clear BK229; clear HB; have HO_8 := n0_; have HO_230000 := n1_; have BK229 := n2_; have HB := n3_; clear n0_ n1_ n2_ n3_; (try clear hb); (try clear hb2); (try clear hk); (try clear hi); have hcz54_0 : w53.cell? ⟨gb229, 0, none⟩ = some (.slice Ao52 x230000_1.length co52) := (blk_cell BK229.out 0).trans rfl; have hcz54_1 : w53.cell? ⟨gb229, 1, none⟩ = some (.int .i64 x230001_1) := (blk_cell BK229.out 1).trans rfl; have hcz54_2 : w53.cell? ⟨gb229, 2, none⟩ = some (.int .i64 x230002_1) := (blk_cell BK229.out 2).trans rfl; have hfz54_0 := blk_frozen BK229.out 0; have hfz54_1 := blk_frozen BK229.out 1; have hfz54_2 := blk_frozen BK229.out 2) | ((with_reducible refine gate_callee (f := 13) rfl ?_); refine goesL_ (some 110) rfl rfl Try.func13 (by kernel_rfl) rfl #[.agg #[.slice Ao52 x230000_1.length co52, .int .i64 x230001_1, .int .i64 x230002_1], .int .i64 x11_2] rfl (by (try simp only [List.map_toArray, List.map_cons, List.map_nil]); first | done | rfl | (simp only [List.length_drop, List.length_take]; rfl)) ?_; (with_reducible refine (key_Left.calls k3 _ _ x230000_1 x230001_1 x230002_1 x11_2 t252 t253 _ ?side1 ?side2 A40.out).mono ?_); (case side1 => repeat (first | exact (Kd.R_reads' HO_230000.out).2.2 | (with_reducible refine Kd.C_alloc ?_ _) | (with_reducible refine Kd.C_drewN ?_ _) | (with_reducible refine Kd.C_drew ?_))); (case side2 => exact (Kd.R_reads' HO_230000.out).2.1); rintro e w55 ⟨rfl, hb⟩; refine ⟨_, rfl, ?_⟩; have n0_ := Aside0.mk (Kd.R_below (by (with_reducible repeat (first | apply Kd.R_alloc | apply Kd.R_drewN | apply Kd.R_drew)); exact HO_8.out) hb); have n1_ := Aside0.mk (Kd.R_below (by (with_reducible repeat (first | apply Kd.R_alloc | apply Kd.R_drewN | apply Kd.R_drew)); exact HO_230000.out) hb); have n2_ := Aside0.mk (blk_below (g := gb229) (o := .cells #[.slice Ao52 x230000_1.length co52, .int .i64 x230001_1, .int .i64 x230002_1] 24 (0, 0)) (by (with_reducible repeat (first | refine blk_drewN ?_ _ | refine blk_drew ?_ | refine blk_alloc ?_ _)); exact BK229.out) hb); have n3_ := Aside0.mk (below_step (by repeat (first | (with_reducible first | exact HB.out | apply below_alloc | apply pw_below_drewN | apply below_drew1 | refine below_set ?_ GE229.out) | exact HB.out)) hb); clear HO_8; clear HO_230000; clear BK229; clear HB; have HO_8 := n0_; have HO_230000 := n1_; have BK229 := n2_; have HB := n3_; clear n0_ n1_ n2_ n3_; (try clear hb); (try clear hb2); (try clear hk); (try clear hi); have hcz56_0 : w55.cell? ⟨gb229, 0, none⟩ = some (.slice Ao52 x230000_1.length co52) := (blk_cell BK229.out 0).trans rfl; have hcz56_1 : w55.cell? ⟨gb229, 1, none⟩ = some (.int .i64 x230001_1) := (blk_cell BK229.out 1).trans rfl; have hcz56_2 : w55.cell? ⟨gb229, 2, none⟩ = some (.int .i64 x230002_1) := (blk_cell BK229.out 2).trans rfl; have hfz56_0 := blk_frozen BK229.out 0; have hfz56_1 := blk_frozen BK229.out 1; have hfz56_2 := blk_frozen BK229.out 2) | ((with_reducible refine gate_callee (f := 13) rfl ?_); refine goesL_ (some 117) rfl rfl Try.func13 (by kernel_rfl) rfl #[.agg #[.slice Ao52 x230000_1.length co52, .int .i64 x230001_1, .int .i64 x230002_1], .int .i64 (wrap64 (x11_2 + 1))] rfl (by (try simp only [List.map_toArray, List.map_cons, List.map_nil]); first | done | rfl | (simp only [List.length_drop, List.length_take]; rfl)) ?_; (with_reducible refine (key_Left.calls k3 _ _ x230000_1 x230001_1 x230002_1 (wrap64 (x11_2 + 1)) t254 t255 _ ?side1 ?side2 A41.out).mono ?_); (case side1 => repeat (first | exact (Kd.R_reads' HO_230000.out).2.2 | (with_reducible refine Kd.C_alloc ?_ _) | (with_reducible refine Kd.C_drewN ?_ _) | (with_reducible refine Kd.C_drew ?_))); (case side2 => exact (Kd.R_reads' HO_230000.out).2.1); rintro e w57 ⟨rfl, hb⟩; refine ⟨_, rfl, ?_⟩; have n0_ := Aside0.mk (Kd.R_below (by (with_reducible repeat (first | apply Kd.R_alloc | apply Kd.R_drewN | apply Kd.R_drew)); exact HO_8.out) hb); have n1_ := Aside0.mk (Kd.R_below (by (with_reducible repeat (first | apply Kd.R_alloc | apply Kd.R_drewN | apply Kd.R_drew)); exact HO_230000.out) hb); have n2_ := Aside0.mk (blk_below (g := gb229) (o := .cells #[.slice Ao52 x230000_1.length co52, .int .i64 x230001_1, .int .i64 x230002_1] 24 (0, 0)) (by (with_reducible repeat (first | refine blk_drewN ?_ _ | refine blk_drew ?_ | refine blk_alloc ?_ _)); exact BK229.out) hb); have n3_ := Aside0.mk (below_step (by repeat (first | (with_reducible first | exact HB.out | apply below_alloc | apply pw_below_drewN | apply below_drew1 | refine below_set ?_ GE229.out) | exact HB.out)) hb); clear HO_8; clear HO_230000; clear BK229; clear HB; have HO_8 := n0_; have HO_230000 := n1_; have BK229 := n2_; have HB := n3_; clear n0_ n1_ n2_ n3_; (try clear hb); (try clear hb2); (try clear hk); (try clear hi); have hcz58_0 : w57.cell? ⟨gb229, 0, none⟩ = some (.slice Ao52 x230000_1.length co52) := (blk_cell BK229.out 0).trans rfl; have hcz58_1 : w57.cell? ⟨gb229, 1, none⟩ = some (.int .i64 x230001_1) := (blk_cell BK229.out 1).trans rfl; have hcz58_2 : w57.cell? ⟨gb229, 2, none⟩ = some (.int .i64 x230002_1) := (blk_cell BK229.out 2).trans rfl; have hfz58_0 := blk_frozen BK229.out 0; have hfz58_1 := blk_frozen BK229.out 1; have hfz58_2 := blk_frozen BK229.out 2))
                                      go_roundg k3
                                      case measure => have := HK1.out; have := HK2.out; have := HK3.out; omega
                                      case rel => exact ⟨(wrap64 (x11_2 + 1)), (by first | rfl | (simp; done) | (simp [*]; done)), H', ⟨by have := HK1.out; have := HK2.out; have := HK3.out; omega⟩, ⟨by (with_reducible repeat (first | apply Kd.R_alloc | apply Kd.R_drewN | apply Kd.R_drew)); exact HO_8.out⟩, ⟨by (with_reducible repeat (first | apply Kd.R_alloc | apply Kd.R_drewN | apply Kd.R_drew)); exact HO_230000.out⟩, ⟨by (with_reducible repeat (first | refine blk_drewN ?_ _ | refine blk_drew ?_ | refine blk_alloc ?_ _)); exact BK229.out⟩, ⟨by repeat (first | (with_reducible first | exact HB.out | apply below_alloc | apply pw_below_drewN | apply below_drew1 | refine below_set ?_ GE229.out) | exact HB.out)⟩⟩
                                  · rw [if_neg c48] at H
                                    have c48b0 : (t254 == (ji47)) = false := beq_eq_false_iff_ne.mpr c48
                                    have c48b1 : (t254 != (ji47)) = true := bne_iff_ne.mpr c48
                                    exact absurd H (by repeat (first | exact never_none | exact never_false | refine never_ite ?_ ?_ | refine never_bind (fun _ => ?_)))
                            · rw [if_neg c44] at H
                              have c44b0 : (t255 == 0) = false := beq_eq_false_iff_ne.mpr c44
                              have c44b1 : (t255 != 0) = true := bne_iff_ne.mpr c44
                              exact absurd H (by repeat (first | exact never_none | exact never_false | refine never_ite ?_ ?_ | refine never_bind (fun _ => ?_)))
                          · rw [if_neg c43] at H
                            have c43b0 : (t253 == 0) = false := beq_eq_false_iff_ne.mpr c43
                            have c43b1 : (t253 != 0) = true := bne_iff_ne.mpr c43
                            exact absurd H (by repeat (first | exact never_none | exact never_false | refine never_ite ?_ ?_ | refine never_bind (fun _ => ?_)))
                        · rw [if_neg c42] at H
                          have c42b0 : (t251 == 0) = false := beq_eq_false_iff_ne.mpr c42
                          have c42b1 : (t251 != 0) = true := bne_iff_ne.mpr c42
                          exact absurd H (by repeat (first | exact never_none | exact never_false | refine never_ite ?_ ?_ | refine never_bind (fun _ => ?_)))
                · rw [if_neg c31] at H
                  have c31b0 : decide (x11_2 < (wrap64 (x9_1 + 60))) = false := decide_eq_false c31
                  clear c31
                  replace H := Option.bind_eq_some_iff.mp H
                  obtain ⟨t247, A590, H⟩ := H
                  replace H : (some t247) = some true := H
                  have A59 := Aside0.mk A590
                  clear A590
                  have Ht_ := Option.some.inj H
                  clear H
                  subst Ht_
                  have H : (some true : Option Bool) = some true := rfl
                  clear H
                  go_wp2_with (first | ((with_reducible refine gate_callee (f := 14) rfl ?_); refine goesL_ (some 154) rfl rfl Try.func14 (by kernel_rfl) rfl #[] rfl (by (try simp only [List.map_toArray, List.map_cons, List.map_nil]); first | done | rfl | (simp only [List.length_drop, List.length_take]; rfl)) ?_; (with_reducible refine (L22_awake.calls k2  true _ A59.out).mono ?_); rintro e w60 ⟨rfl, hb⟩; refine ⟨_, rfl, ?_⟩; have n0_ := Aside0.mk (Kd.R_below (by (with_reducible repeat (first | apply Kd.R_alloc | apply Kd.R_drewN | apply Kd.R_drew)); exact HO_8.out) hb); have n1_ := Aside0.mk (Kd.R_below (by (with_reducible repeat (first | apply Kd.R_alloc | apply Kd.R_drewN | apply Kd.R_drew)); exact HO_230000.out) hb); have n2_ := Aside0.mk (blk_below (g := gb229) (o := .cells #[u230000, .int .i64 x230001_1, .int .i64 x230002_1] 24 (0, 0)) (by (with_reducible repeat (first | refine blk_drewN ?_ _ | refine blk_drew ?_ | refine blk_alloc ?_ _)); exact BK229.out) hb); have n3_ := Aside0.mk (below_step (by repeat (first | (with_reducible first | exact HB.out | apply below_alloc | apply pw_below_drewN | apply below_drew1 | refine below_set ?_ GE229.out) | exact HB.out)) hb); clear HO_8; clear HO_230000; clear BK229; clear HB; have HO_8 := n0_; have HO_230000 := n1_; have BK229 := n2_; have HB := n3_; clear n0_ n1_ n2_ n3_; (try clear hb); (try clear hb2); (try clear hk); (try clear hi)))
                  all_goals go_ret
                  all_goals exact ⟨by first | rfl | (simp [errW_none, errW_some] <;> rfl) | (simp [*, errW_none, errW_some] <;> rfl), by repeat (first | (with_reducible first | exact HB.out | apply below_alloc | apply pw_below_drewN | apply below_drew1 | refine below_set ?_ GE229.out) | exact HB.out)⟩
    · rw [if_neg c8] at H
      have c8b0 : (t236 == 0) = false := beq_eq_false_iff_ne.mpr c8
      have c8b1 : (t236 != 0) = true := bne_iff_ne.mpr c8
      exact absurd H (by repeat (first | exact never_none | exact never_false | refine never_ite ?_ ?_ | refine never_bind (fun _ => ?_)))
  · rw [if_neg c6] at H
    have c6b0 : (t228 == 0) = false := beq_eq_false_iff_ne.mpr c6
    have c6b1 : (t228 != 0) = true := bne_iff_ne.mpr c6
    exact absurd H (by repeat (first | exact never_none | exact never_false | refine never_ite ?_ ?_ | refine never_bind (fun _ => ?_)))

/-- THE ONE PURE STATEMENT of L22_KeyHistory: yours. -/
def L22_KeyHistory.Pure : Prop := ∀ (l0 : List Int) (a1 : Int), l0.length ≤ maxLen → l0.length * 8 ≤ 140737488351232 → (∀ x ∈ l0, (Lit.int .i64 x).wf = true) → (Lit.int .i64 a1).wf = true → ∃ k, L22_KeyHistory.f k l0 a1 = some true
theorem L22_KeyHistory.walk (P : L22_KeyHistory.Pure) (a0 : Option Addr) (len0 cap0 : Nat) (z0 : List Int) (a1 : Int) (w : World) (w0 : (a0 = none ∧ len0 = 0 ∧ cap0 = 0 ∧ z0 = []) ∨ ∃ x, a0 = some x ∧ len0 ≤ cap0 ∧ cap0 ≤ maxLen ∧ z0.length = cap0 ∧ (∀ i, i < z0.length → w.cell? (x.add i) = some (.int .i64 (z0.getD i 0))) ∧ ∀ n ∈ z0, (Lit.int .i64 n).wf = true) (y0 : len0 * 8 ≤ 140737488351232) (w1 : (Lit.int .i64 a1).wf = true) :
    Calls Try.prog 3 #[.slice a0 len0 cap0, .int .i64 a1] w fun e w' => e = .returned (.bool true) ∧ Below w.heap.size w w' := by
  obtain ⟨l0, rfl, hr0, hm0, hw0, hc0⟩ := ReadsInt.ofRowC w0
  obtain ⟨k, h⟩ := P l0 a1 hm0 y0 hw0 w1
  refine (L22_KeyHistory.calls k _ _ l0 a1 true w (Kd.C_of_reads (d := (0 : Int)) (h1 := fun _ => rfl) hr0) hc0 h).mono ?_
  rintro e w' ⟨rfl, hd⟩
  exact ⟨rfl, hd⟩

end Go.Proofs.Ytlcghmfkgblheaa.F
