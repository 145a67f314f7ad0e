/- Part 2 of TableKeeps: what the functions reckon, step by step, and plain laws. No condition. -/
import Derived.Test.YtmfbpkjhabdcgaaKTableKeepsx1
section
-- Written by fork.py (this session's program over the kit's print.py). Not trusted: Lean checks it.
namespace Go.Proofs.Ytmfbpkjhabdcgaa.F
open Go.RowKit Go.Proofs.YtmfbpkjhabdcgaaW.PrintWords Go.Proofs.YtmfbpkjhabdcgaaW.PrintLast Go.Proofs.YtmfbpkjhabdcgaaW.PrintMore
attribute [local go_sem] max2_int min2_int max_two min_two max_three min_three max_four min_four
set_option linter.unusedVariables false
set_option linter.unusedSimpArgs false

/-! ### L21_TableKeeps: function 7 -/
mutual
def L21_TableKeeps.j0 : Nat → Int → Int → Bool → Int → List (S29) → Int → List (S29) → Option (Bool)
  | 0, _, _, _, _, _, _, _ => none
  | k + 1, x11, x12, x104, x452000, x452001, x463000, x463001 => if x104 = true then (some false) else ((table_Halls.f k x463000 x463001).bind fun bt475 => ((table_Of.f x463000 x463001 x12).bind fun bt478 => (if bt475.2.2 = 0 then (if bt478.2 = 0 then (if 0 ≤ (IntKind.u64.wrap (x11)) then (L21_TableKeeps.j1 k x11 bt478.1 ((Int.tmod (shr .u64 (Go.bits .or .u64 bt475.1 bt475.2.1) (IntKind.u64.wrap (x11))) 2) == 1) x452000 x452001) else (none)) else (L21_TableKeeps.j1 k x11 bt478.1 true x452000 x452001)) else (L21_TableKeeps.j1 k x11 bt478.1 true x452000 x452001))))
def L21_TableKeeps.j1 : Nat → Int → List (S29) → Bool → Int → List (S29) → Option (Bool)
  | 0, _, _, _, _, _ => none
  | k + 1, x11, x21, x132, x452000, x452001 => if x132 = true then (some false) else (L21_TableKeeps.l0 k x11 x21 0 x452000 x452001)
def L21_TableKeeps.l0 : Nat → Int → List (S29) → Int → Int → List (S29) → Option (Bool)
  | 0, _, _, _, _, _ => none
  | k + 1, x11, x21, x22, x452000, x452001 => if x22 < (x21.length : Int) then (if 0 ≤ x22 then (if ((rd_T29 x21 x22).f1) = x11 then (some false) else (L21_TableKeeps.l0 k x11 x21 (wrap64 (x22 + 1)) x452000 x452001)) else (none)) else ((table_Wipe.f x452000 x452001).bind fun bt483 => ((table_Wipe.f bt483.1 bt483.2.1).bind fun bt492 => ((table_Halls.f k x452000 x452001).bind fun bt501 => ((table_Halls.f k bt483.1 bt483.2.1).bind fun bt504 => (if bt483.2.2.2 = 0 then (if bt492.2.2.2 = 0 then (if bt501.2.2 = 0 then (if bt504.2.2 = 0 then (if (bt492.2.2.1.length : Int) = 0 then ((K_SameTable.f k bt483.1 bt483.2.1 bt492.1 bt492.2.1).bind fun t507 => (if t507 = true then ((L21_in.f k bt483.2.1 x452001).bind fun t508 => (if t508 = true then (if (wrap64 ((bt483.2.1.length : Int) + (bt483.2.2.1.length : Int))) = (x452001.length : Int) then (if bt501.1 = bt504.1 then (if bt501.2.1 = bt504.2.1 then ((L21_awake.f k).bind fun t509 => (some t509)) else (some false)) else (some false)) else (some false)) else (some false))) else (some false))) else (some false)) else (some false)) else (some false)) else (some false)) else (some false))))))
end
def L21_TableKeeps.f (k : Nat) (a0 : Int) (l1 : List Int) (a2 : Int) (a3 : Int) : Option (Bool) := (L21_made.f k a0 l1).bind fun bt446 => ((K_Mod.f a2 6).bind fun t452 => ((K_Mod.f a3 3).bind fun t453 => ((table_Serve.f bt446.1 bt446.2.1 t452 (wrap64 (1 + t453))).bind fun bt454 => ((table_Serve.f bt454.1 bt454.2.1 t452 (wrap64 (1 + t453))).bind fun bt463 => (if bt446.2.2 = true then (if bt454.2.2.2 = 0 then (if bt463.2.2.2 = 0 then (if (bt463.2.2.1.length : Int) = 0 then ((K_SameTable.f k bt454.1 bt454.2.1 bt463.1 bt463.2.1).bind fun t472 => (if t472 = true then ((L21_in.f k bt454.2.1 bt446.2.1).bind fun t473 => (if t473 = true then ((L21_in.f k bt454.2.2.1 bt446.2.1).bind fun t474 => (if t474 = true then (L21_TableKeeps.j0 k t452 (wrap64 (1 + t453)) ((wrap64 ((bt454.2.1.length : Int) + (bt454.2.2.1.length : Int))) != (bt446.2.1.length : Int)) bt446.1 bt446.2.1 bt454.1 bt454.2.1) else (L21_TableKeeps.j0 k t452 (wrap64 (1 + t453)) true bt446.1 bt446.2.1 bt454.1 bt454.2.1))) else (L21_TableKeeps.j0 k t452 (wrap64 (1 + t453)) true bt446.1 bt446.2.1 bt454.1 bt454.2.1))) else (L21_TableKeeps.j0 k t452 (wrap64 (1 + t453)) true bt446.1 bt446.2.1 bt454.1 bt454.2.1))) else (L21_TableKeeps.j0 k t452 (wrap64 (1 + t453)) true bt446.1 bt446.2.1 bt454.1 bt454.2.1)) else (L21_TableKeeps.j0 k t452 (wrap64 (1 + t453)) true bt446.1 bt446.2.1 bt454.1 bt454.2.1)) else (L21_TableKeeps.j0 k t452 (wrap64 (1 + t453)) true bt446.1 bt446.2.1 bt454.1 bt454.2.1)) else (L21_TableKeeps.j0 k t452 (wrap64 (1 + t453)) true bt446.1 bt446.2.1 bt454.1 bt454.2.1))))))
theorem L21_TableKeeps.mono_l : ∀ k, (∀ y0 y1 y2 y3 y4 y5 y6, LeO (L21_TableKeeps.j0 k y0 y1 y2 y3 y4 y5 y6) (L21_TableKeeps.j0 (k + 1) y0 y1 y2 y3 y4 y5 y6)) ∧ (∀ y0 y1 y2 y3 y4, LeO (L21_TableKeeps.j1 k y0 y1 y2 y3 y4) (L21_TableKeeps.j1 (k + 1) y0 y1 y2 y3 y4)) ∧ (∀ y0 y1 y2 y3 y4, LeO (L21_TableKeeps.l0 k y0 y1 y2 y3 y4) (L21_TableKeeps.l0 (k + 1) y0 y1 y2 y3 y4))
  | 0 => ⟨fun _ _ _ _ _ _ _ r h => by simp [L21_TableKeeps.j0] at h, fun _ _ _ _ _ r h => by simp [L21_TableKeeps.j1] at h, fun _ _ _ _ _ r h => by simp [L21_TableKeeps.l0] at h⟩
  | k + 1 => by
    obtain ⟨ih0, ih1, ih2⟩ := L21_TableKeeps.mono_l k
    refine ⟨?_, ?_, ?_⟩
    · intro y0 y1 y2 y3 y4 y5 y6
      unfold L21_TableKeeps.j0
      repeat' first
      | (with_reducible exact ih0 _ _ _ _ _ _ _)
      | (with_reducible exact ih1 _ _ _ _ _)
      | (with_reducible exact ih2 _ _ _ _ _)
      | (with_reducible exact K_SameTable.mono _ _ _ _ _)
      | (with_reducible exact L21_awake.mono _)
      | (with_reducible exact L21_in.mono _ _ _)
      | (with_reducible exact L21_made.mono _ _ _)
      | (with_reducible exact table_Halls.mono _ _ _)
      | (with_reducible exact LeO.refl _)
      | (with_reducible exact LeO.none _)
      | (with_reducible refine LeO.ite ?_ ?_)
      | (with_reducible refine LeO.bind ?_ (fun _ => ?_))
      | exact ih0 _ _ _ _ _ _ _
      | exact ih1 _ _ _ _ _
      | exact ih2 _ _ _ _ _
      | exact K_SameTable.mono _ _ _ _ _
      | exact L21_awake.mono _
      | exact L21_in.mono _ _ _
      | exact L21_made.mono _ _ _
      | exact table_Halls.mono _ _ _
      | exact LeO.none _
      | refine LeO.ite ?_ ?_
      | refine LeO.bind ?_ (fun _ => ?_)
    · intro y0 y1 y2 y3 y4
      unfold L21_TableKeeps.j1
      repeat' first
      | (with_reducible exact ih0 _ _ _ _ _ _ _)
      | (with_reducible exact ih1 _ _ _ _ _)
      | (with_reducible exact ih2 _ _ _ _ _)
      | (with_reducible exact K_SameTable.mono _ _ _ _ _)
      | (with_reducible exact L21_awake.mono _)
      | (with_reducible exact L21_in.mono _ _ _)
      | (with_reducible exact L21_made.mono _ _ _)
      | (with_reducible exact table_Halls.mono _ _ _)
      | (with_reducible exact LeO.refl _)
      | (with_reducible exact LeO.none _)
      | (with_reducible refine LeO.ite ?_ ?_)
      | (with_reducible refine LeO.bind ?_ (fun _ => ?_))
      | exact ih0 _ _ _ _ _ _ _
      | exact ih1 _ _ _ _ _
      | exact ih2 _ _ _ _ _
      | exact K_SameTable.mono _ _ _ _ _
      | exact L21_awake.mono _
      | exact L21_in.mono _ _ _
      | exact L21_made.mono _ _ _
      | exact table_Halls.mono _ _ _
      | exact LeO.none _
      | refine LeO.ite ?_ ?_
      | refine LeO.bind ?_ (fun _ => ?_)
    · intro y0 y1 y2 y3 y4
      unfold L21_TableKeeps.l0
      repeat' first
      | (with_reducible exact ih0 _ _ _ _ _ _ _)
      | (with_reducible exact ih1 _ _ _ _ _)
      | (with_reducible exact ih2 _ _ _ _ _)
      | (with_reducible exact K_SameTable.mono _ _ _ _ _)
      | (with_reducible exact L21_awake.mono _)
      | (with_reducible exact L21_in.mono _ _ _)
      | (with_reducible exact L21_made.mono _ _ _)
      | (with_reducible exact table_Halls.mono _ _ _)
      | (with_reducible exact LeO.refl _)
      | (with_reducible exact LeO.none _)
      | (with_reducible refine LeO.ite ?_ ?_)
      | (with_reducible refine LeO.bind ?_ (fun _ => ?_))
      | exact ih0 _ _ _ _ _ _ _
      | exact ih1 _ _ _ _ _
      | exact ih2 _ _ _ _ _
      | exact K_SameTable.mono _ _ _ _ _
      | exact L21_awake.mono _
      | exact L21_in.mono _ _ _
      | exact L21_made.mono _ _ _
      | exact table_Halls.mono _ _ _
      | exact LeO.none _
      | refine LeO.ite ?_ ?_
      | refine LeO.bind ?_ (fun _ => ?_)
theorem L21_TableKeeps.mono : ∀ a0 a1 a2 a3 k, LeO (L21_TableKeeps.f k a0 a1 a2 a3) (L21_TableKeeps.f (k + 1) a0 a1 a2 a3) := by
  intro a0 a1 a2 a3 k
  obtain ⟨ih0, ih1, ih2⟩ := L21_TableKeeps.mono_l k
  unfold L21_TableKeeps.f
  repeat' first
      | (with_reducible exact ih0 _ _ _ _ _ _ _)
      | (with_reducible exact ih1 _ _ _ _ _)
      | (with_reducible exact ih2 _ _ _ _ _)
      | (with_reducible exact K_SameTable.mono _ _ _ _ _)
      | (with_reducible exact L21_awake.mono _)
      | (with_reducible exact L21_in.mono _ _ _)
      | (with_reducible exact L21_made.mono _ _ _)
      | (with_reducible exact table_Halls.mono _ _ _)
      | (with_reducible exact LeO.refl _)
      | (with_reducible exact LeO.none _)
      | (with_reducible refine LeO.ite ?_ ?_)
      | (with_reducible refine LeO.bind ?_ (fun _ => ?_))
      | exact ih0 _ _ _ _ _ _ _
      | exact ih1 _ _ _ _ _
      | exact ih2 _ _ _ _ _
      | exact K_SameTable.mono _ _ _ _ _
      | exact L21_awake.mono _
      | exact L21_in.mono _ _ _
      | exact L21_made.mono _ _ _
      | exact table_Halls.mono _ _ _
      | exact LeO.none _
      | refine LeO.ite ?_ ?_
      | refine LeO.bind ?_ (fun _ => ?_)
theorem L21_TableKeeps.j0_d104true (k : Nat) (x11 : Int) (x12 : Int) (x452000 : Int) (x452001 : List (S29)) (x463000 : Int) (x463001 : List (S29)) : L21_TableKeeps.j0 k x11 x12 true x452000 x452001 x463000 x463001 ≠ some true := by
  cases k with
  | zero => simp only [L21_TableKeeps.j0]; exact never_none
  | succ k =>
    simp only [L21_TableKeeps.j0]
    all_goals (try rw [if_pos rfl])
    all_goals (repeat (first | exact never_none | exact never_false | refine never_ite ?_ ?_ | refine never_bind (fun _ => ?_)))
theorem L21_TableKeeps.j1_d132true (k : Nat) (x11 : Int) (x21 : List (S29)) (x452000 : Int) (x452001 : List (S29)) : L21_TableKeeps.j1 k x11 x21 true x452000 x452001 ≠ some true := by
  cases k with
  | zero => simp only [L21_TableKeeps.j1]; exact never_none
  | succ k =>
    simp only [L21_TableKeeps.j1]
    all_goals (try rw [if_pos rfl])
    all_goals (repeat (first | exact never_none | exact never_false | refine never_ite ?_ ?_ | refine never_bind (fun _ => ?_) | exact L21_TableKeeps.j0_d104true _ _ _ _ _ _ _))
set_option maxHeartbeats 8000000 in
set_option maxRecDepth 100000 in
theorem L21_TableKeeps.calls (k : Nat) (a0 : Int) (A1 : Option Addr) (c1 : Nat) (l1 : List Int) (a2 : Int) (a3 : Int) (r : Bool) (w : World) (hr1 : Kd.C (Kd.int .i64) w A1 l1.length l1) (hc1 : l1.length ≤ c1) (h : L21_TableKeeps.f k a0 l1 a2 a3 = some r) (ht_ : r = true := by rfl) :
    Calls Try.prog 7 #[.int .i64 a0, .slice A1 l1.length c1, .int .i64 a2, .int .i64 a3] w fun e w' => e = .returned (.bool r) ∧ Below w.heap.size w w' := by
  subst ht_
  have hu25 := Try.underlying25
  have HR1 := Aside0.mk hr1
  have HC1 := Aside0.mk hc1
  clear hr1 hc1
  have HB := Aside0.mk (Below.refl w.heap.size w)
  have H : ((L21_made.f k a0 l1).bind fun bt446 => ((K_Mod.f a2 6).bind fun t452 => ((K_Mod.f a3 3).bind fun t453 => ((table_Serve.f bt446.1 bt446.2.1 t452 (wrap64 (1 + t453))).bind fun bt454 => ((table_Serve.f bt454.1 bt454.2.1 t452 (wrap64 (1 + t453))).bind fun bt463 => (if bt446.2.2 = true then (if bt454.2.2.2 = 0 then (if bt463.2.2.2 = 0 then (if (bt463.2.2.1.length : Int) = 0 then ((K_SameTable.f k bt454.1 bt454.2.1 bt463.1 bt463.2.1).bind fun t472 => (if t472 = true then ((L21_in.f k bt454.2.1 bt446.2.1).bind fun t473 => (if t473 = true then ((L21_in.f k bt454.2.2.1 bt446.2.1).bind fun t474 => (if t474 = true then (L21_TableKeeps.j0 k t452 (wrap64 (1 + t453)) ((wrap64 ((bt454.2.1.length : Int) + (bt454.2.2.1.length : Int))) != (bt446.2.1.length : Int)) bt446.1 bt446.2.1 bt454.1 bt454.2.1) else (L21_TableKeeps.j0 k t452 (wrap64 (1 + t453)) true bt446.1 bt446.2.1 bt454.1 bt454.2.1))) else (L21_TableKeeps.j0 k t452 (wrap64 (1 + t453)) true bt446.1 bt446.2.1 bt454.1 bt454.2.1))) else (L21_TableKeeps.j0 k t452 (wrap64 (1 + t453)) true bt446.1 bt446.2.1 bt454.1 bt454.2.1))) else (L21_TableKeeps.j0 k t452 (wrap64 (1 + t453)) true bt446.1 bt446.2.1 bt454.1 bt454.2.1)) else (L21_TableKeeps.j0 k t452 (wrap64 (1 + t453)) true bt446.1 bt446.2.1 bt454.1 bt454.2.1)) else (L21_TableKeeps.j0 k t452 (wrap64 (1 + t453)) true bt446.1 bt446.2.1 bt454.1 bt454.2.1)) else (L21_TableKeeps.j0 k t452 (wrap64 (1 + t453)) true bt446.1 bt446.2.1 bt454.1 bt454.2.1))))))) = some true := h
  clear h
  replace H := Option.bind_eq_some_iff.mp H
  obtain ⟨⟨t446, t447, t450⟩, A50, H⟩ := H
  replace H : ((K_Mod.f a2 6).bind fun t452 => ((K_Mod.f a3 3).bind fun t453 => ((table_Serve.f t446 t447 t452 (wrap64 (1 + t453))).bind fun bt454 => ((table_Serve.f bt454.1 bt454.2.1 t452 (wrap64 (1 + t453))).bind fun bt463 => (if t450 = true then (if bt454.2.2.2 = 0 then (if bt463.2.2.2 = 0 then (if (bt463.2.2.1.length : Int) = 0 then ((K_SameTable.f k bt454.1 bt454.2.1 bt463.1 bt463.2.1).bind fun t472 => (if t472 = true then ((L21_in.f k bt454.2.1 t447).bind fun t473 => (if t473 = true then ((L21_in.f k bt454.2.2.1 t447).bind fun t474 => (if t474 = true then (L21_TableKeeps.j0 k t452 (wrap64 (1 + t453)) ((wrap64 ((bt454.2.1.length : Int) + (bt454.2.2.1.length : Int))) != (t447.length : Int)) t446 t447 bt454.1 bt454.2.1) else (L21_TableKeeps.j0 k t452 (wrap64 (1 + t453)) true t446 t447 bt454.1 bt454.2.1))) else (L21_TableKeeps.j0 k t452 (wrap64 (1 + t453)) true t446 t447 bt454.1 bt454.2.1))) else (L21_TableKeeps.j0 k t452 (wrap64 (1 + t453)) true t446 t447 bt454.1 bt454.2.1))) else (L21_TableKeeps.j0 k t452 (wrap64 (1 + t453)) true t446 t447 bt454.1 bt454.2.1)) else (L21_TableKeeps.j0 k t452 (wrap64 (1 + t453)) true t446 t447 bt454.1 bt454.2.1)) else (L21_TableKeeps.j0 k t452 (wrap64 (1 + t453)) true t446 t447 bt454.1 bt454.2.1)) else (L21_TableKeeps.j0 k t452 (wrap64 (1 + t453)) true t446 t447 bt454.1 bt454.2.1)))))) = some true := H
  have A5 := Aside0.mk A50
  clear A50
  replace H := Option.bind_eq_some_iff.mp H
  obtain ⟨t452, A60, H⟩ := H
  replace H : ((K_Mod.f a3 3).bind fun t453 => ((table_Serve.f t446 t447 t452 (wrap64 (1 + t453))).bind fun bt454 => ((table_Serve.f bt454.1 bt454.2.1 t452 (wrap64 (1 + t453))).bind fun bt463 => (if t450 = true then (if bt454.2.2.2 = 0 then (if bt463.2.2.2 = 0 then (if (bt463.2.2.1.length : Int) = 0 then ((K_SameTable.f k bt454.1 bt454.2.1 bt463.1 bt463.2.1).bind fun t472 => (if t472 = true then ((L21_in.f k bt454.2.1 t447).bind fun t473 => (if t473 = true then ((L21_in.f k bt454.2.2.1 t447).bind fun t474 => (if t474 = true then (L21_TableKeeps.j0 k t452 (wrap64 (1 + t453)) ((wrap64 ((bt454.2.1.length : Int) + (bt454.2.2.1.length : Int))) != (t447.length : Int)) t446 t447 bt454.1 bt454.2.1) else (L21_TableKeeps.j0 k t452 (wrap64 (1 + t453)) true t446 t447 bt454.1 bt454.2.1))) else (L21_TableKeeps.j0 k t452 (wrap64 (1 + t453)) true t446 t447 bt454.1 bt454.2.1))) else (L21_TableKeeps.j0 k t452 (wrap64 (1 + t453)) true t446 t447 bt454.1 bt454.2.1))) else (L21_TableKeeps.j0 k t452 (wrap64 (1 + t453)) true t446 t447 bt454.1 bt454.2.1)) else (L21_TableKeeps.j0 k t452 (wrap64 (1 + t453)) true t446 t447 bt454.1 bt454.2.1)) else (L21_TableKeeps.j0 k t452 (wrap64 (1 + t453)) true t446 t447 bt454.1 bt454.2.1)) else (L21_TableKeeps.j0 k t452 (wrap64 (1 + t453)) true t446 t447 bt454.1 bt454.2.1))))) = some true := H
  have A6 := Aside0.mk A60
  clear A60
  replace H := Option.bind_eq_some_iff.mp H
  obtain ⟨t453, A70, H⟩ := H
  replace H : ((table_Serve.f t446 t447 t452 (wrap64 (1 + t453))).bind fun bt454 => ((table_Serve.f bt454.1 bt454.2.1 t452 (wrap64 (1 + t453))).bind fun bt463 => (if t450 = true then (if bt454.2.2.2 = 0 then (if bt463.2.2.2 = 0 then (if (bt463.2.2.1.length : Int) = 0 then ((K_SameTable.f k bt454.1 bt454.2.1 bt463.1 bt463.2.1).bind fun t472 => (if t472 = true then ((L21_in.f k bt454.2.1 t447).bind fun t473 => (if t473 = true then ((L21_in.f k bt454.2.2.1 t447).bind fun t474 => (if t474 = true then (L21_TableKeeps.j0 k t452 (wrap64 (1 + t453)) ((wrap64 ((bt454.2.1.length : Int) + (bt454.2.2.1.length : Int))) != (t447.length : Int)) t446 t447 bt454.1 bt454.2.1) else (L21_TableKeeps.j0 k t452 (wrap64 (1 + t453)) true t446 t447 bt454.1 bt454.2.1))) else (L21_TableKeeps.j0 k t452 (wrap64 (1 + t453)) true t446 t447 bt454.1 bt454.2.1))) else (L21_TableKeeps.j0 k t452 (wrap64 (1 + t453)) true t446 t447 bt454.1 bt454.2.1))) else (L21_TableKeeps.j0 k t452 (wrap64 (1 + t453)) true t446 t447 bt454.1 bt454.2.1)) else (L21_TableKeeps.j0 k t452 (wrap64 (1 + t453)) true t446 t447 bt454.1 bt454.2.1)) else (L21_TableKeeps.j0 k t452 (wrap64 (1 + t453)) true t446 t447 bt454.1 bt454.2.1)) else (L21_TableKeeps.j0 k t452 (wrap64 (1 + t453)) true t446 t447 bt454.1 bt454.2.1)))) = some true := H
  have A7 := Aside0.mk A70
  clear A70
  replace H := Option.bind_eq_some_iff.mp H
  obtain ⟨⟨t454, t455, t458, t461⟩, A80, H⟩ := H
  replace H : ((table_Serve.f t454 t455 t452 (wrap64 (1 + t453))).bind fun bt463 => (if t450 = true then (if t461 = 0 then (if bt463.2.2.2 = 0 then (if (bt463.2.2.1.length : Int) = 0 then ((K_SameTable.f k t454 t455 bt463.1 bt463.2.1).bind fun t472 => (if t472 = true then ((L21_in.f k t455 t447).bind fun t473 => (if t473 = true then ((L21_in.f k t458 t447).bind fun t474 => (if t474 = true then (L21_TableKeeps.j0 k t452 (wrap64 (1 + t453)) ((wrap64 ((t455.length : Int) + (t458.length : Int))) != (t447.length : Int)) t446 t447 t454 t455) else (L21_TableKeeps.j0 k t452 (wrap64 (1 + t453)) true t446 t447 t454 t455))) else (L21_TableKeeps.j0 k t452 (wrap64 (1 + t453)) true t446 t447 t454 t455))) else (L21_TableKeeps.j0 k t452 (wrap64 (1 + t453)) true t446 t447 t454 t455))) else (L21_TableKeeps.j0 k t452 (wrap64 (1 + t453)) true t446 t447 t454 t455)) else (L21_TableKeeps.j0 k t452 (wrap64 (1 + t453)) true t446 t447 t454 t455)) else (L21_TableKeeps.j0 k t452 (wrap64 (1 + t453)) true t446 t447 t454 t455)) else (L21_TableKeeps.j0 k t452 (wrap64 (1 + t453)) true t446 t447 t454 t455))) = some true := H
  have A8 := Aside0.mk A80
  clear A80
  replace H := Option.bind_eq_some_iff.mp H
  obtain ⟨⟨t463, t464, t467, t470⟩, A90, H⟩ := H
  replace H : (if t450 = true then (if t461 = 0 then (if t470 = 0 then (if (t467.length : Int) = 0 then ((K_SameTable.f k t454 t455 t463 t464).bind fun t472 => (if t472 = true then ((L21_in.f k t455 t447).bind fun t473 => (if t473 = true then ((L21_in.f k t458 t447).bind fun t474 => (if t474 = true then (L21_TableKeeps.j0 k t452 (wrap64 (1 + t453)) ((wrap64 ((t455.length : Int) + (t458.length : Int))) != (t447.length : Int)) t446 t447 t454 t455) else (L21_TableKeeps.j0 k t452 (wrap64 (1 + t453)) true t446 t447 t454 t455))) else (L21_TableKeeps.j0 k t452 (wrap64 (1 + t453)) true t446 t447 t454 t455))) else (L21_TableKeeps.j0 k t452 (wrap64 (1 + t453)) true t446 t447 t454 t455))) else (L21_TableKeeps.j0 k t452 (wrap64 (1 + t453)) true t446 t447 t454 t455)) else (L21_TableKeeps.j0 k t452 (wrap64 (1 + t453)) true t446 t447 t454 t455)) else (L21_TableKeeps.j0 k t452 (wrap64 (1 + t453)) true t446 t447 t454 t455)) else (L21_TableKeeps.j0 k t452 (wrap64 (1 + t453)) true t446 t447 t454 t455)) = some true := H
  have A9 := Aside0.mk A90
  clear A90
  have HC10 := Aside0.mk H
  clear H
  go_enter Try.func7, Try.ntmps7
  go_upto_region 5 with (first | ((with_reducible refine gate_callee (f := 29) rfl ?_); refine goesL_ (some 33) rfl rfl Try.func29 (by kernel_rfl) rfl #[.int .i64 a0, .slice A1 l1.length c1] rfl (by (try simp only [List.map_toArray, List.map_cons, List.map_nil]); first | done | rfl | (simp only [List.length_drop, List.length_take]; rfl)) ?_; (with_reducible refine (L21_made.calls k a0 _ _ l1 t446 t447 t450 _ ?side1 ?side2 A5.out).mono ?_); (case side1 => repeat (first | exact HR1.out | (with_reducible refine Kd.C_alloc ?_ _) | (with_reducible refine Kd.C_drewN ?_ _) | (with_reducible refine Kd.C_drew ?_))); (case side2 => exact HC1.out); rintro e w11 ⟨v448, rfl, ho0, hb⟩; refine ⟨_, rfl, ?_⟩; have n0_ := Aside0.mk (Kd.R_lower ho0 (below_size (by repeat (first | (with_reducible first | exact HB.out | apply below_alloc | apply pw_below_drewN | apply below_drew1) | exact HB.out)))); have n1_ := Aside0.mk (below_step (by repeat (first | (with_reducible first | exact HB.out | apply below_alloc | apply pw_below_drewN | apply below_drew1) | exact HB.out)) hb); clear HB; have HO449 := n0_; have HB := n1_; clear n0_ n1_; (try clear hb); (try clear hb2); (try clear hk); (try clear hi); (try clear ho0)) | ((with_reducible refine gate_dst (N := 9) rfl ?_); (try (refine gate_guard (by rfl) ?_; dsimp only)); refine box_event ?hg (N := 9) ?hd (cs := #[.int .i64 0, .slice none 0 0]) (t := 25) ?hr ?_; (case hd => rfl); (case hg => rfl); (case hr => first | (go_simp; done) | (go_simp; rfl)); intro gb451 hg w12 hbox hb; have n0_ := Aside0.mk (Kd.R_below (by (with_reducible repeat (first | apply Kd.R_alloc | apply Kd.R_drewN | apply Kd.R_drew)); exact HO449.out) hb); have n1_ := Aside0.mk (below_step (by repeat (first | (with_reducible first | exact HB.out | apply below_alloc | apply pw_below_drewN | apply below_drew1) | exact HB.out)) hb); have n2_ := Aside0.mk (hbox); have n3_ := Aside0.mk ((by rw [hg]; exact (below_size (by repeat (first | (with_reducible first | exact HB.out | apply below_alloc | apply pw_below_drewN | apply below_drew1) | exact HB.out))) : w.heap.size ≤ gb451)); have n4_ := Aside0.mk ((by rw [hg]; exact (below_size (by repeat (first | (with_reducible first | exact HB.out | apply below_alloc | apply pw_below_drewN | apply below_drew1) | exact HB.out))) : w.heap.size ≤ gb451)); clear HO449; clear HB; have HO449 := n0_; have HB := n1_; have BK451 := n2_; have GW451 := n3_; have GE451 := n4_; clear n0_ n1_ n2_ n3_ n4_; clear hb hbox hg; have hcz13_0 : w12.cell? ⟨gb451, 0, none⟩ = some (.int .i64 0) := (blk_cell BK451.out 0).trans rfl; have hcz13_1 : w12.cell? ⟨gb451, 1, none⟩ = some (.slice none 0 0) := (blk_cell BK451.out 1).trans rfl; have hfz13_0 := blk_frozen BK451.out 0; have hfz13_1 := blk_frozen BK451.out 1; obtain ⟨Ao14, co14, eo14⟩ := Kd.R_slice HO449.out; subst eo14) | ((with_reducible refine gate_callee (f := 31) rfl ?_); refine goesL_ (some 37) rfl rfl Try.func31 (by kernel_rfl) rfl #[.int .i64 a2, .int .i64 6] rfl (by (try simp only [List.map_toArray, List.map_cons, List.map_nil]); first | done | rfl | (simp only [List.length_drop, List.length_take]; rfl)) ?_; (with_reducible refine (K_Mod.calls a2 6 t452 _ A6.out).mono ?_); rintro e w' ⟨rfl, ⟨nd, rfl⟩⟩; refine ⟨_, rfl, ?_⟩) | ((with_reducible refine gate_callee (f := 31) rfl ?_); refine goesL_ (some 39) rfl rfl Try.func31 (by kernel_rfl) rfl #[.int .i64 a3, .int .i64 3] rfl (by (try simp only [List.map_toArray, List.map_cons, List.map_nil]); first | done | rfl | (simp only [List.length_drop, List.length_take]; rfl)) ?_; (with_reducible refine (K_Mod.calls a3 3 t453 _ A7.out).mono ?_); rintro e w' ⟨rfl, ⟨nd, rfl⟩⟩; refine ⟨_, rfl, ?_⟩) | ((with_reducible refine gate_callee (f := 35) rfl ?_); refine goesL_ (some 45) rfl rfl Try.func35 (by kernel_rfl) rfl #[.agg #[.int .i64 t446, .slice Ao14 t447.length co14], .int .i64 t452, .int .i64 (wrap64 (1 + t453))] rfl (by (try simp only [List.map_toArray, List.map_cons, List.map_nil]); first | done | rfl | (simp only [List.length_drop, List.length_take]; rfl)) ?_; (with_reducible refine (table_Serve.calls t446 _ _ t447 t452 (wrap64 (1 + t453)) t454 t455 t458 t461 _ ?side1 ?side2 A8.out).mono ?_); (case side1 => refine (Kd.R_reads' (e := 29) (base := w.heap.size) (ok := fun k_ => True) (n := t447.length) (c := co14) ?_).2.2; exact (by (with_reducible repeat (first | apply Kd.R_alloc | apply Kd.R_drewN | apply Kd.R_drew)); exact (Kd.R_mono (Kd.R_far (p := ⟨gb451, 1, none⟩) (Kd.R_far (p := ⟨gb451, 0, none⟩) (Kd.R_types HO449.out BK451.out (by decide)) (fun _ hk => hk.2) (.int .i64 t446)) (fun _ hk => hk.2) (.slice Ao14 t447.length co14)) (fun _ h_ => h_.1)))); (case side2 => exact (Kd.R_reads' HO449.out).2.1); rintro e w15 ⟨v456, v459, rfl, ho0, ho1, hb⟩; refine ⟨_, rfl, ?_⟩; have n0_ := Aside0.mk (Kd.R_mono (Kd.R_told (Kd.R_told (Kd.R_old (by (with_reducible repeat (first | apply Kd.R_alloc | apply Kd.R_drewN | apply Kd.R_drew)); exact (Kd.R_mono (Kd.R_far (p := ⟨gb451, 1, none⟩) (Kd.R_far (p := ⟨gb451, 0, none⟩) (Kd.R_types HO449.out BK451.out (by decide)) (fun _ hk => hk.2) (.int .i64 t446)) (fun _ hk => hk.2) (.slice Ao14 t447.length co14)) (fun _ h_ => h_.1))) hb) (Kd.R_base ho0)) (Kd.R_base ho1)) (fun _ h_ => h_.1)); have n1_ := Aside0.mk (Kd.R_lower (Kd.R_new' ho0 (Kd.R_lt (by (with_reducible repeat (first | apply Kd.R_alloc | apply Kd.R_drewN | apply Kd.R_drew)); exact (Kd.R_mono (Kd.R_far (p := ⟨gb451, 1, none⟩) (Kd.R_far (p := ⟨gb451, 0, none⟩) (Kd.R_types HO449.out BK451.out (by decide)) (fun _ hk => hk.2) (.int .i64 t446)) (fun _ hk => hk.2) (.slice Ao14 t447.length co14)) (fun _ h_ => h_.1))))) (below_size (by repeat (first | (with_reducible first | exact HB.out | apply below_alloc | apply pw_below_drewN | apply below_drew1 | refine below_set ?_ GE451.out) | exact HB.out)))); have n2_ := Aside0.mk (Kd.R_lower (Kd.R_new' ho1 (Kd.R_lt (by (with_reducible repeat (first | apply Kd.R_alloc | apply Kd.R_drewN | apply Kd.R_drew)); exact (Kd.R_mono (Kd.R_far (p := ⟨gb451, 1, none⟩) (Kd.R_far (p := ⟨gb451, 0, none⟩) (Kd.R_types HO449.out BK451.out (by decide)) (fun _ hk => hk.2) (.int .i64 t446)) (fun _ hk => hk.2) (.slice Ao14 t447.length co14)) (fun _ h_ => h_.1))))) (below_size (by repeat (first | (with_reducible first | exact HB.out | apply below_alloc | apply pw_below_drewN | apply below_drew1 | refine below_set ?_ GE451.out) | exact HB.out)))); have n3_ := Aside0.mk (blk_below (g := gb451) (o := .cells #[.int .i64 t446, .slice Ao14 t447.length co14] 25 (0, 0)) (by (with_reducible repeat (first | refine blk_drewN ?_ _ | refine blk_drew ?_ | refine blk_alloc ?_ _)); refine blk_put (cs := #[.int .i64 t446, .slice none 0 0]) ?_ 1 _ rfl; (with_reducible repeat (first | refine blk_drewN ?_ _ | refine blk_drew ?_ | refine blk_alloc ?_ _)); refine blk_put (cs := #[.int .i64 0, .slice none 0 0]) ?_ 0 _ rfl; (with_reducible repeat (first | refine blk_drewN ?_ _ | refine blk_drew ?_ | refine blk_alloc ?_ _)); exact BK451.out) hb); have n4_ := Aside0.mk (below_step (by repeat (first | (with_reducible first | exact HB.out | apply below_alloc | apply pw_below_drewN | apply below_drew1 | refine below_set ?_ GE451.out) | exact HB.out)) hb); clear HO449; clear BK451; clear HB; have HO449 := n0_; have HO457 := n1_; have HO460 := n2_; have BK451 := n3_; have HB := n4_; clear n0_ n1_ n2_ n3_ n4_; (try clear hb); (try clear hb2); (try clear hk); (try clear hi); (try clear ho0); (try clear ho1)) | ((with_reducible refine gate_dst (N := 13) rfl ?_); (try (refine gate_guard (by rfl) ?_; dsimp only)); refine box_event ?hg (N := 13) ?hd (cs := #[.int .i64 0, .slice none 0 0]) (t := 25) ?hr ?_; (case hd => rfl); (case hg => rfl); (case hr => first | (go_simp; done) | (go_simp; rfl)); intro gb462 hg w16 hbox hb; have n0_ := Aside0.mk (Kd.R_below (by (with_reducible repeat (first | apply Kd.R_alloc | apply Kd.R_drewN | apply Kd.R_drew)); exact HO449.out) hb); have n1_ := Aside0.mk (Kd.R_below (by (with_reducible repeat (first | apply Kd.R_alloc | apply Kd.R_drewN | apply Kd.R_drew)); exact HO457.out) hb); have n2_ := Aside0.mk (Kd.R_below (by (with_reducible repeat (first | apply Kd.R_alloc | apply Kd.R_drewN | apply Kd.R_drew)); exact HO460.out) hb); have n3_ := Aside0.mk (blk_below (g := gb451) (o := .cells #[.int .i64 t446, .slice Ao14 t447.length co14] 25 (0, 0)) (by (with_reducible repeat (first | refine blk_drewN ?_ _ | refine blk_drew ?_ | refine blk_alloc ?_ _)); exact BK451.out) hb); have n4_ := Aside0.mk (below_step (by repeat (first | (with_reducible first | exact HB.out | apply below_alloc | apply pw_below_drewN | apply below_drew1 | refine below_set ?_ GE451.out) | exact HB.out)) hb); have n5_ := Aside0.mk (hbox); have n6_ := Aside0.mk ((by rw [hg]; exact (below_size (by repeat (first | (with_reducible first | exact HB.out | apply below_alloc | apply pw_below_drewN | apply below_drew1 | refine below_set ?_ GE451.out) | exact HB.out))) : w.heap.size ≤ gb462)); have n7_ := Aside0.mk ((by rw [hg]; exact (below_size (by repeat (first | (with_reducible first | exact HB.out | apply below_alloc | apply pw_below_drewN | apply below_drew1 | refine below_set ?_ GE451.out) | exact HB.out))) : w.heap.size ≤ gb462)); have n8_ := Aside0.mk ((by rw [hg]; exact Nat.ne_of_lt (blk_lt (g := gb451) (o := .cells #[.int .i64 t446, .slice Ao14 t447.length co14] 25 (0, 0)) (by (with_reducible repeat (first | refine blk_drewN ?_ _ | refine blk_drew ?_ | refine blk_alloc ?_ _)); exact BK451.out)) : gb451 ≠ gb462)); have n9_ := Aside0.mk ((by rw [hg]; exact Nat.ne_of_gt (blk_lt (g := gb451) (o := .cells #[.int .i64 t446, .slice Ao14 t447.length co14] 25 (0, 0)) (by (with_reducible repeat (first | refine blk_drewN ?_ _ | refine blk_drew ?_ | refine blk_alloc ?_ _)); exact BK451.out)) : gb462 ≠ gb451)); clear HO449; clear HO457; clear HO460; clear BK451; clear HB; have HO449 := n0_; have HO457 := n1_; have HO460 := n2_; have BK451 := n3_; have HB := n4_; have BK462 := n5_; have GW462 := n6_; have GE462 := n7_; have NB451_462 := n8_; have NB462_451 := n9_; clear n0_ n1_ n2_ n3_ n4_ n5_ n6_ n7_ n8_ n9_; clear hb hbox hg; have hnb17 := NB462_451.out; have hnc17 := NB451_462.out; have hcz18_0 : w16.cell? ⟨gb462, 0, none⟩ = some (.int .i64 0) := (blk_cell BK462.out 0).trans rfl; have hcz18_1 : w16.cell? ⟨gb462, 1, none⟩ = some (.slice none 0 0) := (blk_cell BK462.out 1).trans rfl; have hfz18_0 := blk_frozen BK462.out 0; have hfz18_1 := blk_frozen BK462.out 1; obtain ⟨Ao19, co19, eo19⟩ := Kd.R_slice HO457.out; subst eo19) | ((with_reducible refine gate_callee (f := 35) rfl ?_); refine goesL_ (some 53) rfl rfl Try.func35 (by kernel_rfl) rfl #[.agg #[.int .i64 t454, .slice Ao19 t455.length co19], .int .i64 t452, .int .i64 (wrap64 (1 + t453))] rfl (by (try simp only [List.map_toArray, List.map_cons, List.map_nil]); first | done | rfl | (simp only [List.length_drop, List.length_take]; rfl)) ?_; (with_reducible refine (table_Serve.calls t454 _ _ t455 t452 (wrap64 (1 + t453)) t463 t464 t467 t470 _ ?side1 ?side2 A9.out).mono ?_); (case side1 => refine (Kd.R_reads' (e := 29) (base := w.heap.size) (ok := fun k_ => (some k_ ≠ (v459 : Value).ownBlock ∧ some k_ ≠ (.slice Ao14 t447.length co14 : Value).ownBlock)) (n := t455.length) (c := co19) ?_).2.2; exact (by (with_reducible repeat (first | apply Kd.R_alloc | apply Kd.R_drewN | apply Kd.R_drew)); exact (Kd.R_mono (Kd.R_far (p := ⟨gb462, 1, none⟩) (Kd.R_far (p := ⟨gb462, 0, none⟩) (Kd.R_types HO457.out BK462.out (by decide)) (fun _ hk => hk.2) (.int .i64 t454)) (fun _ hk => hk.2) (.slice Ao19 t455.length co19)) (fun _ h_ => h_.1)))); (case side2 => exact (Kd.R_reads' HO457.out).2.1); rintro e w20 ⟨v465, v468, rfl, ho0, ho1, hb⟩; refine ⟨_, rfl, ?_⟩; have n0_ := Aside0.mk (Kd.R_mono (Kd.R_told (Kd.R_told (Kd.R_old (by (with_reducible repeat (first | apply Kd.R_alloc | apply Kd.R_drewN | apply Kd.R_drew)); exact (Kd.R_mono (Kd.R_far (p := ⟨gb462, 1, none⟩) (Kd.R_far (p := ⟨gb462, 0, none⟩) (Kd.R_types HO449.out BK462.out (by decide)) (fun _ hk => hk.2) (.int .i64 t454)) (fun _ hk => hk.2) (.slice Ao19 t455.length co19)) (fun _ h_ => h_.1))) hb) (Kd.R_base ho0)) (Kd.R_base ho1)) (fun _ h_ => h_.1)); have n1_ := Aside0.mk (Kd.R_mono (Kd.R_told (Kd.R_told (Kd.R_old (by (with_reducible repeat (first | apply Kd.R_alloc | apply Kd.R_drewN | apply Kd.R_drew)); exact (Kd.R_mono (Kd.R_far (p := ⟨gb462, 1, none⟩) (Kd.R_far (p := ⟨gb462, 0, none⟩) (Kd.R_types HO457.out BK462.out (by decide)) (fun _ hk => hk.2) (.int .i64 t454)) (fun _ hk => hk.2) (.slice Ao19 t455.length co19)) (fun _ h_ => h_.1))) hb) (Kd.R_base ho0)) (Kd.R_base ho1)) (fun _ h_ => h_.1)); have n2_ := Aside0.mk (Kd.R_mono (Kd.R_told (Kd.R_told (Kd.R_old (by (with_reducible repeat (first | apply Kd.R_alloc | apply Kd.R_drewN | apply Kd.R_drew)); exact (Kd.R_mono (Kd.R_far (p := ⟨gb462, 1, none⟩) (Kd.R_far (p := ⟨gb462, 0, none⟩) (Kd.R_types HO460.out BK462.out (by decide)) (fun _ hk => hk.2) (.int .i64 t454)) (fun _ hk => hk.2) (.slice Ao19 t455.length co19)) (fun _ h_ => h_.1))) hb) (Kd.R_base ho0)) (Kd.R_base ho1)) (fun _ h_ => h_.1)); have n3_ := Aside0.mk (Kd.R_lower (Kd.R_new' (Kd.R_new' (Kd.R_new' ho0 (Kd.R_lt (by (with_reducible repeat (first | apply Kd.R_alloc | apply Kd.R_drewN | apply Kd.R_drew)); exact (Kd.R_mono (Kd.R_far (p := ⟨gb462, 1, none⟩) (Kd.R_far (p := ⟨gb462, 0, none⟩) (Kd.R_types HO449.out BK462.out (by decide)) (fun _ hk => hk.2) (.int .i64 t454)) (fun _ hk => hk.2) (.slice Ao19 t455.length co19)) (fun _ h_ => h_.1))))) (Kd.R_lt (by (with_reducible repeat (first | apply Kd.R_alloc | apply Kd.R_drewN | apply Kd.R_drew)); exact (Kd.R_mono (Kd.R_far (p := ⟨gb462, 1, none⟩) (Kd.R_far (p := ⟨gb462, 0, none⟩) (Kd.R_types HO457.out BK462.out (by decide)) (fun _ hk => hk.2) (.int .i64 t454)) (fun _ hk => hk.2) (.slice Ao19 t455.length co19)) (fun _ h_ => h_.1))))) (Kd.R_lt (by (with_reducible repeat (first | apply Kd.R_alloc | apply Kd.R_drewN | apply Kd.R_drew)); exact (Kd.R_mono (Kd.R_far (p := ⟨gb462, 1, none⟩) (Kd.R_far (p := ⟨gb462, 0, none⟩) (Kd.R_types HO460.out BK462.out (by decide)) (fun _ hk => hk.2) (.int .i64 t454)) (fun _ hk => hk.2) (.slice Ao19 t455.length co19)) (fun _ h_ => h_.1))))) (below_size (by repeat (first | (with_reducible first | exact HB.out | apply below_alloc | apply pw_below_drewN | apply below_drew1 | refine below_set ?_ GE451.out | refine below_set ?_ GE462.out) | exact HB.out)))); have n4_ := Aside0.mk (Kd.R_lower (Kd.R_new' (Kd.R_new' (Kd.R_new' ho1 (Kd.R_lt (by (with_reducible repeat (first | apply Kd.R_alloc | apply Kd.R_drewN | apply Kd.R_drew)); exact (Kd.R_mono (Kd.R_far (p := ⟨gb462, 1, none⟩) (Kd.R_far (p := ⟨gb462, 0, none⟩) (Kd.R_types HO449.out BK462.out (by decide)) (fun _ hk => hk.2) (.int .i64 t454)) (fun _ hk => hk.2) (.slice Ao19 t455.length co19)) (fun _ h_ => h_.1))))) (Kd.R_lt (by (with_reducible repeat (first | apply Kd.R_alloc | apply Kd.R_drewN | apply Kd.R_drew)); exact (Kd.R_mono (Kd.R_far (p := ⟨gb462, 1, none⟩) (Kd.R_far (p := ⟨gb462, 0, none⟩) (Kd.R_types HO457.out BK462.out (by decide)) (fun _ hk => hk.2) (.int .i64 t454)) (fun _ hk => hk.2) (.slice Ao19 t455.length co19)) (fun _ h_ => h_.1))))) (Kd.R_lt (by (with_reducible repeat (first | apply Kd.R_alloc | apply Kd.R_drewN | apply Kd.R_drew)); exact (Kd.R_mono (Kd.R_far (p := ⟨gb462, 1, none⟩) (Kd.R_far (p := ⟨gb462, 0, none⟩) (Kd.R_types HO460.out BK462.out (by decide)) (fun _ hk => hk.2) (.int .i64 t454)) (fun _ hk => hk.2) (.slice Ao19 t455.length co19)) (fun _ h_ => h_.1))))) (below_size (by repeat (first | (with_reducible first | exact HB.out | apply below_alloc | apply pw_below_drewN | apply below_drew1 | refine below_set ?_ GE451.out | refine below_set ?_ GE462.out) | exact HB.out)))); have n5_ := Aside0.mk (blk_below (g := gb451) (o := .cells #[.int .i64 t446, .slice Ao14 t447.length co14] 25 (0, 0)) (by (with_reducible repeat (first | refine blk_drewN ?_ _ | refine blk_drew ?_ | refine blk_alloc ?_ _)); refine blk_far ?_ NB451_462.out _; (with_reducible repeat (first | refine blk_drewN ?_ _ | refine blk_drew ?_ | refine blk_alloc ?_ _)); refine blk_far ?_ NB451_462.out _; (with_reducible repeat (first | refine blk_drewN ?_ _ | refine blk_drew ?_ | refine blk_alloc ?_ _)); exact BK451.out) hb); have n6_ := Aside0.mk (blk_below (g := gb462) (o := .cells #[.int .i64 t454, .slice Ao19 t455.length co19] 25 (0, 0)) (by (with_reducible repeat (first | refine blk_drewN ?_ _ | refine blk_drew ?_ | refine blk_alloc ?_ _)); refine blk_put (cs := #[.int .i64 t454, .slice none 0 0]) ?_ 1 _ rfl; (with_reducible repeat (first | refine blk_drewN ?_ _ | refine blk_drew ?_ | refine blk_alloc ?_ _)); refine blk_put (cs := #[.int .i64 0, .slice none 0 0]) ?_ 0 _ rfl; (with_reducible repeat (first | refine blk_drewN ?_ _ | refine blk_drew ?_ | refine blk_alloc ?_ _)); exact BK462.out) hb); have n7_ := Aside0.mk (below_step (by repeat (first | (with_reducible first | exact HB.out | apply below_alloc | apply pw_below_drewN | apply below_drew1 | refine below_set ?_ GE451.out | refine below_set ?_ GE462.out) | exact HB.out)) hb); clear HO449; clear HO457; clear HO460; clear BK451; clear BK462; clear HB; have HO449 := n0_; have HO457 := n1_; have HO460 := n2_; have HO466 := n3_; have HO469 := n4_; have BK451 := n5_; have BK462 := n6_; have HB := n7_; clear n0_ n1_ n2_ n3_ n4_ n5_ n6_ n7_; (try clear hb); (try clear hb2); (try clear hk); (try clear hi); (try clear ho0); (try clear ho1)) | ((with_reducible refine gate_dst (N := 16) rfl ?_); (try (refine gate_guard (by rfl) ?_; dsimp only)); refine box_event ?hg (N := 16) ?hd (cs := #[.int .i64 0, .slice none 0 0]) (t := 25) ?hr ?_; (case hd => rfl); (case hg => rfl); (case hr => first | (go_simp; done) | (go_simp; rfl)); intro gb471 hg w21 hbox hb; have n0_ := Aside0.mk (Kd.R_below (by (with_reducible repeat (first | apply Kd.R_alloc | apply Kd.R_drewN | apply Kd.R_drew)); exact HO449.out) hb); have n1_ := Aside0.mk (Kd.R_below (by (with_reducible repeat (first | apply Kd.R_alloc | apply Kd.R_drewN | apply Kd.R_drew)); exact HO457.out) hb); have n2_ := Aside0.mk (Kd.R_below (by (with_reducible repeat (first | apply Kd.R_alloc | apply Kd.R_drewN | apply Kd.R_drew)); exact HO460.out) hb); have n3_ := Aside0.mk (Kd.R_below (by (with_reducible repeat (first | apply Kd.R_alloc | apply Kd.R_drewN | apply Kd.R_drew)); exact HO466.out) hb); have n4_ := Aside0.mk (Kd.R_below (by (with_reducible repeat (first | apply Kd.R_alloc | apply Kd.R_drewN | apply Kd.R_drew)); exact HO469.out) hb); have n5_ := Aside0.mk (blk_below (g := gb451) (o := .cells #[.int .i64 t446, .slice Ao14 t447.length co14] 25 (0, 0)) (by (with_reducible repeat (first | refine blk_drewN ?_ _ | refine blk_drew ?_ | refine blk_alloc ?_ _)); exact BK451.out) hb); have n6_ := Aside0.mk (blk_below (g := gb462) (o := .cells #[.int .i64 t454, .slice Ao19 t455.length co19] 25 (0, 0)) (by (with_reducible repeat (first | refine blk_drewN ?_ _ | refine blk_drew ?_ | refine blk_alloc ?_ _)); exact BK462.out) hb); have n7_ := Aside0.mk (below_step (by repeat (first | (with_reducible first | exact HB.out | apply below_alloc | apply pw_below_drewN | apply below_drew1 | refine below_set ?_ GE451.out | refine below_set ?_ GE462.out) | exact HB.out)) hb); have n8_ := Aside0.mk (hbox); have n9_ := Aside0.mk ((by rw [hg]; exact (below_size (by repeat (first | (with_reducible first | exact HB.out | apply below_alloc | apply pw_below_drewN | apply below_drew1 | refine below_set ?_ GE451.out | refine below_set ?_ GE462.out) | exact HB.out))) : w.heap.size ≤ gb471)); have n10_ := Aside0.mk ((by rw [hg]; exact (below_size (by repeat (first | (with_reducible first | exact HB.out | apply below_alloc | apply pw_below_drewN | apply below_drew1 | refine below_set ?_ GE451.out | refine below_set ?_ GE462.out) | exact HB.out))) : w.heap.size ≤ gb471)); have n11_ := Aside0.mk ((by rw [hg]; exact Nat.ne_of_lt (blk_lt (g := gb451) (o := .cells #[.int .i64 t446, .slice Ao14 t447.length co14] 25 (0, 0)) (by (with_reducible repeat (first | refine blk_drewN ?_ _ | refine blk_drew ?_ | refine blk_alloc ?_ _)); exact BK451.out)) : gb451 ≠ gb471)); have n12_ := Aside0.mk ((by rw [hg]; exact Nat.ne_of_gt (blk_lt (g := gb451) (o := .cells #[.int .i64 t446, .slice Ao14 t447.length co14] 25 (0, 0)) (by (with_reducible repeat (first | refine blk_drewN ?_ _ | refine blk_drew ?_ | refine blk_alloc ?_ _)); exact BK451.out)) : gb471 ≠ gb451)); have n13_ := Aside0.mk ((by rw [hg]; exact Nat.ne_of_lt (blk_lt (g := gb462) (o := .cells #[.int .i64 t454, .slice Ao19 t455.length co19] 25 (0, 0)) (by (with_reducible repeat (first | refine blk_drewN ?_ _ | refine blk_drew ?_ | refine blk_alloc ?_ _)); exact BK462.out)) : gb462 ≠ gb471)); have n14_ := Aside0.mk ((by rw [hg]; exact Nat.ne_of_gt (blk_lt (g := gb462) (o := .cells #[.int .i64 t454, .slice Ao19 t455.length co19] 25 (0, 0)) (by (with_reducible repeat (first | refine blk_drewN ?_ _ | refine blk_drew ?_ | refine blk_alloc ?_ _)); exact BK462.out)) : gb471 ≠ gb462)); clear HO449; clear HO457; clear HO460; clear HO466; clear HO469; clear BK451; clear BK462; clear HB; have HO449 := n0_; have HO457 := n1_; have HO460 := n2_; have HO466 := n3_; have HO469 := n4_; have BK451 := n5_; have BK462 := n6_; have HB := n7_; have BK471 := n8_; have GW471 := n9_; have GE471 := n10_; have NB451_471 := n11_; have NB471_451 := n12_; have NB462_471 := n13_; have NB471_462 := n14_; clear n0_ n1_ n2_ n3_ n4_ n5_ n6_ n7_ n8_ n9_ n10_ n11_ n12_ n13_ n14_; clear hb hbox hg; have hnb22 := NB471_451.out; have hnc22 := NB451_471.out; have hnb23 := NB471_462.out; have hnc23 := NB462_471.out; have hcz24_0 : w21.cell? ⟨gb471, 0, none⟩ = some (.int .i64 0) := (blk_cell BK471.out 0).trans rfl; have hcz24_1 : w21.cell? ⟨gb471, 1, none⟩ = some (.slice none 0 0) := (blk_cell BK471.out 1).trans rfl; have hfz24_0 := blk_frozen BK471.out 0; have hfz24_1 := blk_frozen BK471.out 1; obtain ⟨Ao25, co25, eo25⟩ := Kd.R_slice HO466.out; subst eo25))
  (try simp only [Act.put, List.setIfInBounds_toArray, List.set_cons_zero, List.set_cons_succ])
  go_cut [104] (fun v104 wc => ∃ (kq : Nat) (x104_9 : Bool), v104 = .bool x104_9 ∧ Aside0 (L21_TableKeeps.j0 kq t452 (wrap64 (1 + t453)) x104_9 t446 t447 t454 t455 = some true) ∧ Aside0 (kq ≤ k) ∧ Aside0 (Kd.R k29 29 wc w.heap.size (fun k_ => some k_ ≠ ((.slice Ao19 t455.length co19) : Value).ownBlock ∧ some k_ ≠ ((.slice Ao25 t464.length co25) : Value).ownBlock) (.slice Ao14 t447.length co14) t447) ∧ Aside0 (Kd.R k29 29 wc w.heap.size (fun k_ => some k_ ≠ ((.slice Ao14 t447.length co14) : Value).ownBlock ∧ some k_ ≠ ((.slice Ao25 t464.length co25) : Value).ownBlock) (.slice Ao19 t455.length co19) t455) ∧ Aside0 (Kd.R k29 29 wc w.heap.size (fun k_ => some k_ ≠ ((.slice Ao14 t447.length co14) : Value).ownBlock ∧ some k_ ≠ ((.slice Ao19 t455.length co19) : Value).ownBlock) (.slice Ao25 t464.length co25) t464) ∧ Aside0 (wc.heap[gb451]? = some (.cells #[.int .i64 t446, (.slice Ao14 t447.length co14)] 25 (0, 0))) ∧ Aside0 (wc.heap[gb462]? = some (.cells #[.int .i64 t454, (.slice Ao19 t455.length co19)] 25 (0, 0))) ∧ Aside0 (wc.heap[gb471]? = some (.cells #[.int .i64 t463, (.slice Ao25 t464.length co25)] 25 (0, 0))) ∧ Aside0 (Below w.heap.size w wc))
  case first =>
    have H := HC10.out
    clear HC10
    by_cases c26 : t450 = true
    · subst c26
      have H1 : (if t461 = 0 then (if t470 = 0 then (if (t467.length : Int) = 0 then ((K_SameTable.f k t454 t455 t463 t464).bind fun t472 => (if t472 = true then ((L21_in.f k t455 t447).bind fun t473 => (if t473 = true then ((L21_in.f k t458 t447).bind fun t474 => (if t474 = true then (L21_TableKeeps.j0 k t452 (wrap64 (1 + t453)) ((wrap64 ((t455.length : Int) + (t458.length : Int))) != (t447.length : Int)) t446 t447 t454 t455) else (L21_TableKeeps.j0 k t452 (wrap64 (1 + t453)) true t446 t447 t454 t455))) else (L21_TableKeeps.j0 k t452 (wrap64 (1 + t453)) true t446 t447 t454 t455))) else (L21_TableKeeps.j0 k t452 (wrap64 (1 + t453)) true t446 t447 t454 t455))) else (L21_TableKeeps.j0 k t452 (wrap64 (1 + t453)) true t446 t447 t454 t455)) else (L21_TableKeeps.j0 k t452 (wrap64 (1 + t453)) true t446 t447 t454 t455)) else (L21_TableKeeps.j0 k t452 (wrap64 (1 + t453)) true t446 t447 t454 t455)) = some true := by rw [if_pos rfl] at H; exact H
      clear H
      have H := H1
      clear H1
      by_cases c27 : t461 = 0
      · rw [if_pos c27] at H
        have c27b0 : (t461 == 0) = true := beq_iff_eq.mpr c27
        have c27b1 : (t461 != 0) = false := bne_eq_false_iff_eq.mpr c27
        clear c27
        (first | rw [c27b0] | (simp only [i64_w, i32_w]; rw [c27b0]) | skip)
        by_cases c28 : t470 = 0
        · rw [if_pos c28] at H
          have c28b0 : (t470 == 0) = true := beq_iff_eq.mpr c28
          have c28b1 : (t470 != 0) = false := bne_eq_false_iff_eq.mpr c28
          clear c28
          by_cases c29 : (t467.length : Int) = 0
          · rw [if_pos c29] at H
            have c29b0 : ((t467.length : Int) == 0) = true := beq_iff_eq.mpr c29
            have c29b1 : ((t467.length : Int) != 0) = false := bne_eq_false_iff_eq.mpr c29
            clear c29
            replace H := Option.bind_eq_some_iff.mp H
            obtain ⟨t472, A300, H⟩ := H
            replace H : (if t472 = true then ((L21_in.f k t455 t447).bind fun t473 => (if t473 = true then ((L21_in.f k t458 t447).bind fun t474 => (if t474 = true then (L21_TableKeeps.j0 k t452 (wrap64 (1 + t453)) ((wrap64 ((t455.length : Int) + (t458.length : Int))) != (t447.length : Int)) t446 t447 t454 t455) else (L21_TableKeeps.j0 k t452 (wrap64 (1 + t453)) true t446 t447 t454 t455))) else (L21_TableKeeps.j0 k t452 (wrap64 (1 + t453)) true t446 t447 t454 t455))) else (L21_TableKeeps.j0 k t452 (wrap64 (1 + t453)) true t446 t447 t454 t455)) = some true := H
            have A30 := Aside0.mk A300
            clear A300
            by_cases c31 : t472 = true
            · subst c31
              have H1 : ((L21_in.f k t455 t447).bind fun t473 => (if t473 = true then ((L21_in.f k t458 t447).bind fun t474 => (if t474 = true then (L21_TableKeeps.j0 k t452 (wrap64 (1 + t453)) ((wrap64 ((t455.length : Int) + (t458.length : Int))) != (t447.length : Int)) t446 t447 t454 t455) else (L21_TableKeeps.j0 k t452 (wrap64 (1 + t453)) true t446 t447 t454 t455))) else (L21_TableKeeps.j0 k t452 (wrap64 (1 + t453)) true t446 t447 t454 t455))) = some true := by rw [if_pos rfl] at H; exact H
              clear H
              have H := H1
              clear H1
              replace H := Option.bind_eq_some_iff.mp H
              obtain ⟨t473, A320, H⟩ := H
              replace H : (if t473 = true then ((L21_in.f k t458 t447).bind fun t474 => (if t474 = true then (L21_TableKeeps.j0 k t452 (wrap64 (1 + t453)) ((wrap64 ((t455.length : Int) + (t458.length : Int))) != (t447.length : Int)) t446 t447 t454 t455) else (L21_TableKeeps.j0 k t452 (wrap64 (1 + t453)) true t446 t447 t454 t455))) else (L21_TableKeeps.j0 k t452 (wrap64 (1 + t453)) true t446 t447 t454 t455)) = some true := H
              have A32 := Aside0.mk A320
              clear A320
              by_cases c33 : t473 = true
              · subst c33
                have H1 : ((L21_in.f k t458 t447).bind fun t474 => (if t474 = true then (L21_TableKeeps.j0 k t452 (wrap64 (1 + t453)) ((wrap64 ((t455.length : Int) + (t458.length : Int))) != (t447.length : Int)) t446 t447 t454 t455) else (L21_TableKeeps.j0 k t452 (wrap64 (1 + t453)) true t446 t447 t454 t455))) = some true := by rw [if_pos rfl] at H; exact H
                clear H
                have H := H1
                clear H1
                replace H := Option.bind_eq_some_iff.mp H
                obtain ⟨t474, A340, H⟩ := H
                replace H : (if t474 = true then (L21_TableKeeps.j0 k t452 (wrap64 (1 + t453)) ((wrap64 ((t455.length : Int) + (t458.length : Int))) != (t447.length : Int)) t446 t447 t454 t455) else (L21_TableKeeps.j0 k t452 (wrap64 (1 + t453)) true t446 t447 t454 t455)) = some true := H
                have A34 := Aside0.mk A340
                clear A340
                by_cases c35 : t474 = true
                · subst c35
                  have H1 : (L21_TableKeeps.j0 k t452 (wrap64 (1 + t453)) ((wrap64 ((t455.length : Int) + (t458.length : Int))) != (t447.length : Int)) t446 t447 t454 t455) = some true := by rw [if_pos rfl] at H; exact H
                  clear H
                  have H := H1
                  clear H1
                  have H' := Aside0.mk H
                  clear H
                  obtain ⟨Ao36, co36, eo36⟩ := Kd.R_slice HO469.out
                  subst eo36
                  have hnb37 := NB462_451.out
                  have hnc37 := NB451_462.out
                  have hnb38 := NB462_471.out
                  have hnc38 := NB471_462.out
                  have hcz39_0 : w21.cell? ⟨gb462, 0, none⟩ = some (.int .i64 t454) := (blk_cell BK462.out 0).trans rfl
                  have hcz39_1 : w21.cell? ⟨gb462, 1, none⟩ = some (.slice Ao19 t455.length co19) := (blk_cell BK462.out 1).trans rfl
                  have hfz39_0 := blk_frozen BK462.out 0
                  have hfz39_1 := blk_frozen BK462.out 1
                  have hnb40 := NB471_451.out
                  have hnc40 := NB451_471.out
                  have hcz41_0 : w21.cell? ⟨gb471, 0, none⟩ = some (.int .i64 0) := (blk_cell BK471.out 0).trans rfl
                  have hcz41_1 : w21.cell? ⟨gb471, 1, none⟩ = some (.slice none 0 0) := (blk_cell BK471.out 1).trans rfl
                  have hfz41_0 := blk_frozen BK471.out 0
                  have hfz41_1 := blk_frozen BK471.out 1
                  go_wp2_with (first | ((with_reducible refine gate_callee (f := 37) rfl ?_); (with_reducible refine gate_dst (N := 75) rfl ?_); refine gate_guard (by rfl) ?_; dsimp only; refine goesL_ (some 75) rfl rfl Try.func37 (by kernel_rfl) rfl #[.agg #[.int .i64 t454, .slice Ao19 t455.length co19], .agg #[.int .i64 t463, .slice Ao25 t464.length co25]] rfl (by (try simp only [List.map_toArray, List.map_cons, List.map_nil]); first | done | rfl | (simp only [List.length_drop, List.length_take]; rfl)) ?_; (with_reducible refine (K_SameTable.calls k t454 _ _ t455 t463 _ _ t464 true _ ?side1 ?side2 ?side3 ?side4 A30.out).mono ?_); (case side1 => refine (Kd.R_reads' (e := 29) (base := w.heap.size) (ok := fun k_ => (((some k_ ≠ (v459 : Value).ownBlock ∧ some k_ ≠ (.slice Ao14 t447.length co14 : Value).ownBlock) ∧ some k_ ≠ (.slice Ao25 t464.length co25 : Value).ownBlock) ∧ some k_ ≠ (.slice Ao36 t467.length co36 : Value).ownBlock)) (n := t455.length) (c := co19) ?_).2.2; exact (by (with_reducible repeat (first | apply Kd.R_alloc | apply Kd.R_drewN | apply Kd.R_drew)); exact (Kd.R_mono (Kd.R_far (p := ⟨gb471, 1, none⟩) (Kd.R_far (p := ⟨gb471, 0, none⟩) (Kd.R_types HO457.out BK471.out (by decide)) (fun _ hk => hk.2) (.int .i64 t463)) (fun _ hk => hk.2) (.slice Ao25 t464.length co25)) (fun _ h_ => h_.1)))); (case side2 => exact (Kd.R_reads' HO457.out).2.1); (case side3 => refine (Kd.R_reads' (e := 29) (base := w.heap.size) (ok := fun k_ => (((some k_ ≠ (.slice Ao36 t467.length co36 : Value).ownBlock ∧ some k_ ≠ (.slice Ao14 t447.length co14 : Value).ownBlock) ∧ some k_ ≠ (.slice Ao19 t455.length co19 : Value).ownBlock) ∧ some k_ ≠ (v459 : Value).ownBlock)) (n := t464.length) (c := co25) ?_).2.2; exact (by (with_reducible repeat (first | apply Kd.R_alloc | apply Kd.R_drewN | apply Kd.R_drew)); exact (Kd.R_mono (Kd.R_far (p := ⟨gb471, 1, none⟩) (Kd.R_far (p := ⟨gb471, 0, none⟩) (Kd.R_types HO466.out BK471.out (by decide)) (fun _ hk => hk.2) (.int .i64 t463)) (fun _ hk => hk.2) (.slice Ao25 t464.length co25)) (fun _ h_ => h_.1)))); (case side4 => exact (Kd.R_reads' HO466.out).2.1); rintro e w42 ⟨rfl, hb⟩; refine ⟨_, rfl, ?_⟩; have n0_ := Aside0.mk (Kd.R_below (by (with_reducible repeat (first | apply Kd.R_alloc | apply Kd.R_drewN | apply Kd.R_drew)); exact (Kd.R_mono (Kd.R_far (p := ⟨gb471, 1, none⟩) (Kd.R_far (p := ⟨gb471, 0, none⟩) (Kd.R_types HO449.out BK471.out (by decide)) (fun _ hk => hk.2) (.int .i64 t463)) (fun _ hk => hk.2) (.slice Ao25 t464.length co25)) (fun _ h_ => h_.1))) hb); have n1_ := Aside0.mk (Kd.R_below (by (with_reducible repeat (first | apply Kd.R_alloc | apply Kd.R_drewN | apply Kd.R_drew)); exact (Kd.R_mono (Kd.R_far (p := ⟨gb471, 1, none⟩) (Kd.R_far (p := ⟨gb471, 0, none⟩) (Kd.R_types HO457.out BK471.out (by decide)) (fun _ hk => hk.2) (.int .i64 t463)) (fun _ hk => hk.2) (.slice Ao25 t464.length co25)) (fun _ h_ => h_.1))) hb); have n2_ := Aside0.mk (Kd.R_below (by (with_reducible repeat (first | apply Kd.R_alloc | apply Kd.R_drewN | apply Kd.R_drew)); exact (Kd.R_mono (Kd.R_far (p := ⟨gb471, 1, none⟩) (Kd.R_far (p := ⟨gb471, 0, none⟩) (Kd.R_types HO460.out BK471.out (by decide)) (fun _ hk => hk.2) (.int .i64 t463)) (fun _ hk => hk.2) (.slice Ao25 t464.length co25)) (fun _ h_ => h_.1))) hb); have n3_ := Aside0.mk (Kd.R_below (by (with_reducible repeat (first | apply Kd.R_alloc | apply Kd.R_drewN | apply Kd.R_drew)); exact (Kd.R_mono (Kd.R_far (p := ⟨gb471, 1, none⟩) (Kd.R_far (p := ⟨gb471, 0, none⟩) (Kd.R_types HO466.out BK471.out (by decide)) (fun _ hk => hk.2) (.int .i64 t463)) (fun _ hk => hk.2) (.slice Ao25 t464.length co25)) (fun _ h_ => h_.1))) hb); have n4_ := Aside0.mk (Kd.R_below (by (with_reducible repeat (first | apply Kd.R_alloc | apply Kd.R_drewN | apply Kd.R_drew)); exact (Kd.R_mono (Kd.R_far (p := ⟨gb471, 1, none⟩) (Kd.R_far (p := ⟨gb471, 0, none⟩) (Kd.R_types HO469.out BK471.out (by decide)) (fun _ hk => hk.2) (.int .i64 t463)) (fun _ hk => hk.2) (.slice Ao25 t464.length co25)) (fun _ h_ => h_.1))) hb); have n5_ := Aside0.mk (blk_below (g := gb451) (o := .cells #[.int .i64 t446, .slice Ao14 t447.length co14] 25 (0, 0)) (by (with_reducible repeat (first | refine blk_drewN ?_ _ | refine blk_drew ?_ | refine blk_alloc ?_ _)); refine blk_far ?_ NB451_471.out _; (with_reducible repeat (first | refine blk_drewN ?_ _ | refine blk_drew ?_ | refine blk_alloc ?_ _)); refine blk_far ?_ NB451_471.out _; (with_reducible repeat (first | refine blk_drewN ?_ _ | refine blk_drew ?_ | refine blk_alloc ?_ _)); exact BK451.out) hb); have n6_ := Aside0.mk (blk_below (g := gb462) (o := .cells #[.int .i64 t454, .slice Ao19 t455.length co19] 25 (0, 0)) (by (with_reducible repeat (first | refine blk_drewN ?_ _ | refine blk_drew ?_ | refine blk_alloc ?_ _)); refine blk_far ?_ NB462_471.out _; (with_reducible repeat (first | refine blk_drewN ?_ _ | refine blk_drew ?_ | refine blk_alloc ?_ _)); refine blk_far ?_ NB462_471.out _; (with_reducible repeat (first | refine blk_drewN ?_ _ | refine blk_drew ?_ | refine blk_alloc ?_ _)); exact BK462.out) hb); have n7_ := Aside0.mk (blk_below (g := gb471) (o := .cells #[.int .i64 t463, .slice Ao25 t464.length co25] 25 (0, 0)) (by (with_reducible repeat (first | refine blk_drewN ?_ _ | refine blk_drew ?_ | refine blk_alloc ?_ _)); refine blk_put (cs := #[.int .i64 t463, .slice none 0 0]) ?_ 1 _ rfl; (with_reducible repeat (first | refine blk_drewN ?_ _ | refine blk_drew ?_ | refine blk_alloc ?_ _)); refine blk_put (cs := #[.int .i64 0, .slice none 0 0]) ?_ 0 _ rfl; (with_reducible repeat (first | refine blk_drewN ?_ _ | refine blk_drew ?_ | refine blk_alloc ?_ _)); exact BK471.out) hb); have n8_ := Aside0.mk (below_step (by repeat (first | (with_reducible first | exact HB.out | apply below_alloc | apply pw_below_drewN | apply below_drew1 | refine below_set ?_ GE451.out | refine below_set ?_ GE462.out | refine below_set ?_ GE471.out) | exact HB.out)) hb); clear HO449; clear HO457; clear HO460; clear HO466; clear HO469; clear BK451; clear BK462; clear BK471; clear HB; have HO449 := n0_; have HO457 := n1_; have HO460 := n2_; have HO466 := n3_; have HO469 := n4_; have BK451 := n5_; have BK462 := n6_; have BK471 := n7_; have HB := n8_; clear n0_ n1_ n2_ n3_ n4_ n5_ n6_ n7_ n8_; (try clear hb); (try clear hb2); (try clear hk); (try clear hi); have hcz43_0 : w42.cell? ⟨gb462, 0, none⟩ = some (.int .i64 t454) := (blk_cell BK462.out 0).trans rfl; have hcz43_1 : w42.cell? ⟨gb462, 1, none⟩ = some (.slice Ao19 t455.length co19) := (blk_cell BK462.out 1).trans rfl; have hfz43_0 := blk_frozen BK462.out 0; have hfz43_1 := blk_frozen BK462.out 1; have hcz44_0 : w42.cell? ⟨gb451, 0, none⟩ = some (.int .i64 t446) := (blk_cell BK451.out 0).trans rfl; have hcz44_1 : w42.cell? ⟨gb451, 1, none⟩ = some (.slice Ao14 t447.length co14) := (blk_cell BK451.out 1).trans rfl; have hfz44_0 := blk_frozen BK451.out 0; have hfz44_1 := blk_frozen BK451.out 1) | ((with_reducible refine gate_callee (f := 47) rfl ?_); (with_reducible refine gate_dst (N := 83) rfl ?_); refine gate_guard (by rfl) ?_; dsimp only; refine goesL_ (some 83) rfl rfl Try.func47 (by kernel_rfl) rfl #[.slice Ao19 t455.length co19, .slice Ao14 t447.length co14] rfl (by (try simp only [List.map_toArray, List.map_cons, List.map_nil]); first | done | rfl | (simp only [List.length_drop, List.length_take]; rfl)) ?_; (with_reducible refine (L21_in.calls k _ _ t455 _ _ t447 true _ ?side1 ?side2 ?side3 ?side4 A32.out).mono ?_); (case side1 => repeat (first | exact (Kd.R_reads' HO457.out).2.2 | (with_reducible refine Kd.C_alloc ?_ _) | (with_reducible refine Kd.C_drewN ?_ _) | (with_reducible refine Kd.C_drew ?_))); (case side2 => exact (Kd.R_reads' HO457.out).2.1); (case side3 => repeat (first | exact (Kd.R_reads' HO449.out).2.2 | (with_reducible refine Kd.C_alloc ?_ _) | (with_reducible refine Kd.C_drewN ?_ _) | (with_reducible refine Kd.C_drew ?_))); (case side4 => exact (Kd.R_reads' HO449.out).2.1); rintro e w' ⟨rfl, ⟨nd, rfl⟩⟩; refine ⟨_, rfl, ?_⟩; obtain ⟨Ao45, co45, eo45⟩ := Kd.R_slice HO460.out; subst eo45) | ((with_reducible refine gate_callee (f := 47) rfl ?_); (with_reducible refine gate_dst (N := 90) rfl ?_); refine gate_guard (by rfl) ?_; dsimp only; refine goesL_ (some 90) rfl rfl Try.func47 (by kernel_rfl) rfl #[.slice Ao45 t458.length co45, .slice Ao14 t447.length co14] rfl (by (try simp only [List.map_toArray, List.map_cons, List.map_nil]); first | done | rfl | (simp only [List.length_drop, List.length_take]; rfl)) ?_; (with_reducible refine (L21_in.calls k _ _ t458 _ _ t447 true _ ?side1 ?side2 ?side3 ?side4 A34.out).mono ?_); (case side1 => repeat (first | exact (Kd.R_reads' HO460.out).2.2 | (with_reducible refine Kd.C_alloc ?_ _) | (with_reducible refine Kd.C_drewN ?_ _) | (with_reducible refine Kd.C_drew ?_))); (case side2 => exact (Kd.R_reads' HO460.out).2.1); (case side3 => repeat (first | exact (Kd.R_reads' HO449.out).2.2 | (with_reducible refine Kd.C_alloc ?_ _) | (with_reducible refine Kd.C_drewN ?_ _) | (with_reducible refine Kd.C_drew ?_))); (case side4 => exact (Kd.R_reads' HO449.out).2.1); rintro e w' ⟨rfl, ⟨nd, rfl⟩⟩; refine ⟨_, rfl, ?_⟩))
                  go_meet
                  case rel => exact ⟨_, (((wrap64 ((t455.length : Int) + (t458.length : Int))) != (t447.length : Int))), (by first | rfl | (simp; done) | (simp [*]; done)), H', ⟨by first | omega | exact Nat.le_refl _⟩, ⟨by (with_reducible repeat (first | apply Kd.R_alloc | apply Kd.R_drewN | apply Kd.R_drew)); exact Kd.R_mono HO449.out (fun _ hk => ⟨hk.1.1.1.2, hk.1.2⟩)⟩, ⟨by (with_reducible repeat (first | apply Kd.R_alloc | apply Kd.R_drewN | apply Kd.R_drew)); exact Kd.R_mono HO457.out (fun _ hk => ⟨hk.1.1.2, hk.1.2⟩)⟩, ⟨by (with_reducible repeat (first | apply Kd.R_alloc | apply Kd.R_drewN | apply Kd.R_drew)); exact Kd.R_mono HO466.out (fun _ hk => ⟨hk.1.1.2, hk.1.2⟩)⟩, ⟨by (with_reducible repeat (first | refine blk_drewN ?_ _ | refine blk_drew ?_ | refine blk_alloc ?_ _)); exact BK451.out⟩, ⟨by (with_reducible repeat (first | refine blk_drewN ?_ _ | refine blk_drew ?_ | refine blk_alloc ?_ _)); exact BK462.out⟩, ⟨by (with_reducible repeat (first | refine blk_drewN ?_ _ | refine blk_drew ?_ | refine blk_alloc ?_ _)); exact BK471.out⟩, ⟨by repeat (first | (with_reducible first | exact HB.out | apply below_alloc | apply pw_below_drewN | apply below_drew1 | refine below_set ?_ GE451.out | refine below_set ?_ GE462.out | refine below_set ?_ GE471.out) | exact HB.out)⟩⟩
                · replace c35 := Bool.eq_false_iff.mpr c35
                  subst c35
                  have H1 : (L21_TableKeeps.j0 k t452 (wrap64 (1 + t453)) true t446 t447 t454 t455) = some true := by rw [if_neg (show ¬ (false = true) by decide)] at H; exact H
                  clear H
                  have H := H1
                  clear H1
                  exact absurd H (by repeat (first | exact never_none | exact never_false | refine never_ite ?_ ?_ | refine never_bind (fun _ => ?_) | exact L21_TableKeeps.j0_d104true _ _ _ _ _ _ _ | exact L21_TableKeeps.j1_d132true _ _ _ _ _))
              · replace c33 := Bool.eq_false_iff.mpr c33
                subst c33
                have H1 : (L21_TableKeeps.j0 k t452 (wrap64 (1 + t453)) true t446 t447 t454 t455) = some true := by rw [if_neg (show ¬ (false = true) by decide)] at H; exact H
                clear H
                have H := H1
                clear H1
                exact absurd H (by repeat (first | exact never_none | exact never_false | refine never_ite ?_ ?_ | refine never_bind (fun _ => ?_) | exact L21_TableKeeps.j0_d104true _ _ _ _ _ _ _ | exact L21_TableKeeps.j1_d132true _ _ _ _ _))
            · replace c31 := Bool.eq_false_iff.mpr c31
              subst c31
              have H1 : (L21_TableKeeps.j0 k t452 (wrap64 (1 + t453)) true t446 t447 t454 t455) = some true := by rw [if_neg (show ¬ (false = true) by decide)] at H; exact H
              clear H
              have H := H1
              clear H1
              exact absurd H (by repeat (first | exact never_none | exact never_false | refine never_ite ?_ ?_ | refine never_bind (fun _ => ?_) | exact L21_TableKeeps.j0_d104true _ _ _ _ _ _ _ | exact L21_TableKeeps.j1_d132true _ _ _ _ _))
          · rw [if_neg c29] at H
            have c29b0 : ((t467.length : Int) == 0) = false := beq_eq_false_iff_ne.mpr c29
            have c29b1 : ((t467.length : Int) != 0) = true := bne_iff_ne.mpr c29
            have c29b2 : ¬ (t467 = []) := fun h_ => c29 (by rw [h_]; rfl)
            exact absurd H (by repeat (first | exact never_none | exact never_false | refine never_ite ?_ ?_ | refine never_bind (fun _ => ?_) | exact L21_TableKeeps.j0_d104true _ _ _ _ _ _ _ | exact L21_TableKeeps.j1_d132true _ _ _ _ _))
        · rw [if_neg c28] at H
          have c28b0 : (t470 == 0) = false := beq_eq_false_iff_ne.mpr c28
          have c28b1 : (t470 != 0) = true := bne_iff_ne.mpr c28
          exact absurd H (by repeat (first | exact never_none | exact never_false | refine never_ite ?_ ?_ | refine never_bind (fun _ => ?_) | exact L21_TableKeeps.j0_d104true _ _ _ _ _ _ _ | exact L21_TableKeeps.j1_d132true _ _ _ _ _))
      · rw [if_neg c27] at H
        have c27b0 : (t461 == 0) = false := beq_eq_false_iff_ne.mpr c27
        have c27b1 : (t461 != 0) = true := bne_iff_ne.mpr c27
        (first | rw [c27b0] | (simp only [i64_w, i32_w]; rw [c27b0]) | skip)
        exact absurd H (by repeat (first | exact never_none | exact never_false | refine never_ite ?_ ?_ | refine never_bind (fun _ => ?_) | exact L21_TableKeeps.j0_d104true _ _ _ _ _ _ _ | exact L21_TableKeeps.j1_d132true _ _ _ _ _))
    · replace c26 := Bool.eq_false_iff.mpr c26
      subst c26
      have H1 : (L21_TableKeeps.j0 k t452 (wrap64 (1 + t453)) true t446 t447 t454 t455) = some true := by rw [if_neg (show ¬ (false = true) by decide)] at H; exact H
      clear H
      have H := H1
      clear H1
      exact absurd H (by repeat (first | exact never_none | exact never_false | refine never_ite ?_ ?_ | refine never_bind (fun _ => ?_) | exact L21_TableKeeps.j0_d104true _ _ _ _ _ _ _ | exact L21_TableKeeps.j1_d132true _ _ _ _ _))
  case rest =>
    clear HC10
    try clear c1
    try clear c2
    try clear p2
    try clear c3
    try clear c4
    try clear p6
    try clear c7
    try clear c17
    try clear c22
    try clear c23
    try clear c26
    try clear c27
    try clear c27b0
    try clear c27b1
    try clear c28
    try clear c28b0
    try clear c28b1
    try clear c29
    try clear c29b0
    try clear c29b1
    try clear c29b2
    try clear c31
    try clear c33
    try clear c35
    try clear c37
    try clear c38
    try clear c40
    try clear hcz13_0
    try clear hcz13_1
    try clear hcz18_0
    try clear hcz18_1
    try clear hcz24_0
    try clear hcz24_1
    try clear hcz39_0
    try clear hcz39_1
    try clear hcz41_0
    try clear hcz41_1
    try clear hcz43_0
    try clear hcz43_1
    try clear hcz44_0
    try clear hcz44_1
    try clear hfz13_0
    try clear hfz13_1
    try clear hfz18_0
    try clear hfz18_1
    try clear hfz24_0
    try clear hfz24_1
    try clear hfz39_0
    try clear hfz39_1
    try clear hfz41_0
    try clear hfz41_1
    try clear hfz43_0
    try clear hfz43_1
    try clear hfz44_0
    try clear hfz44_1
    obtain ⟨kq, x104_9, rfl, HA, HJ9, HO_452001, HO_463001, HO_472001, BK451, BK462, BK471, HB⟩ := hcut
    cases kq with
    | zero => exact absurd HA.out (by simp [L21_TableKeeps.j0])
    | succ kj9 =>
      have H := HA.out
      clear HA
      simp only [L21_TableKeeps.j0] at H
      by_cases c46 : x104_9 = true
      · subst c46
        have H1 : (some false) = some true := by rw [if_pos rfl] at H; exact H
        clear H
        have H := H1
        clear H1
        exact absurd H (by repeat (first | exact never_none | exact never_false | refine never_ite ?_ ?_ | refine never_bind (fun _ => ?_) | exact L21_TableKeeps.j0_d104true _ _ _ _ _ _ _ | exact L21_TableKeeps.j1_d132true _ _ _ _ _))
      · replace c46 := Bool.eq_false_iff.mpr c46
        subst c46
        have H1 : ((table_Halls.f kj9 t454 t455).bind fun bt475 => ((table_Of.f t454 t455 (wrap64 (1 + t453))).bind fun bt478 => (if bt475.2.2 = 0 then (if bt478.2 = 0 then (if 0 ≤ (IntKind.u64.wrap (t452)) then (L21_TableKeeps.j1 kj9 t452 bt478.1 ((Int.tmod (shr .u64 (Go.bits .or .u64 bt475.1 bt475.2.1) (IntKind.u64.wrap (t452))) 2) == 1) t446 t447) else (none)) else (L21_TableKeeps.j1 kj9 t452 bt478.1 true t446 t447)) else (L21_TableKeeps.j1 kj9 t452 bt478.1 true t446 t447)))) = some true := by rw [if_neg (show ¬ (false = true) by decide)] at H; exact H
        clear H
        have H := H1
        clear H1
        replace H := Option.bind_eq_some_iff.mp H
        obtain ⟨⟨t475, t476, t477⟩, A470, H⟩ := H
        replace H : ((table_Of.f t454 t455 (wrap64 (1 + t453))).bind fun bt478 => (if t477 = 0 then (if bt478.2 = 0 then (if 0 ≤ (IntKind.u64.wrap (t452)) then (L21_TableKeeps.j1 kj9 t452 bt478.1 ((Int.tmod (shr .u64 (Go.bits .or .u64 t475 t476) (IntKind.u64.wrap (t452))) 2) == 1) t446 t447) else (none)) else (L21_TableKeeps.j1 kj9 t452 bt478.1 true t446 t447)) else (L21_TableKeeps.j1 kj9 t452 bt478.1 true t446 t447))) = some true := H
        have A47 := Aside0.mk A470
        clear A470
        replace H := Option.bind_eq_some_iff.mp H
        obtain ⟨⟨t478, t481⟩, A480, H⟩ := H
        replace H : (if t477 = 0 then (if t481 = 0 then (if 0 ≤ (IntKind.u64.wrap (t452)) then (L21_TableKeeps.j1 kj9 t452 t478 ((Int.tmod (shr .u64 (Go.bits .or .u64 t475 t476) (IntKind.u64.wrap (t452))) 2) == 1) t446 t447) else (none)) else (L21_TableKeeps.j1 kj9 t452 t478 true t446 t447)) else (L21_TableKeeps.j1 kj9 t452 t478 true t446 t447)) = some true := H
        have A48 := Aside0.mk A480
        clear A480
        have HC49 := Aside0.mk H
        clear H
        have hnb50 := NB462_451.out
        have hnc50 := NB451_462.out
        have hnb51 := NB462_471.out
        have hnc51 := NB471_462.out
        have hcz52_0 : wc.cell? ⟨gb462, 0, none⟩ = some (.int .i64 t454) := (blk_cell BK462.out 0).trans rfl
        have hcz52_1 : wc.cell? ⟨gb462, 1, none⟩ = some (.slice Ao19 t455.length co19) := (blk_cell BK462.out 1).trans rfl
        have hfz52_0 := blk_frozen BK462.out 0
        have hfz52_1 := blk_frozen BK462.out 1
        go_upto_region 9 with (first | ((with_reducible refine gate_callee (f := 42) rfl ?_); refine goesL_ (some 107) rfl rfl Try.func42 (by kernel_rfl) rfl #[.agg #[.int .i64 t454, .slice Ao19 t455.length co19]] rfl (by (try simp only [List.map_toArray, List.map_cons, List.map_nil]); first | done | rfl | (simp only [List.length_drop, List.length_take]; rfl)) ?_; (with_reducible refine (table_Halls.calls kj9 t454 _ _ t455 t475 t476 t477 _ ?side1 ?side2 A47.out).mono ?_); (case side1 => repeat (first | exact (Kd.R_reads' HO_463001.out).2.2 | (with_reducible refine Kd.C_alloc ?_ _) | (with_reducible refine Kd.C_drewN ?_ _) | (with_reducible refine Kd.C_drew ?_))); (case side2 => exact (Kd.R_reads' HO_463001.out).2.1); rintro e w53 ⟨rfl, hb⟩; refine ⟨_, rfl, ?_⟩; have n0_ := Aside0.mk (Kd.R_below (by (with_reducible repeat (first | apply Kd.R_alloc | apply Kd.R_drewN | apply Kd.R_drew)); exact HO_452001.out) hb); have n1_ := Aside0.mk (Kd.R_below (by (with_reducible repeat (first | apply Kd.R_alloc | apply Kd.R_drewN | apply Kd.R_drew)); exact HO_463001.out) hb); have n2_ := Aside0.mk (Kd.R_below (by (with_reducible repeat (first | apply Kd.R_alloc | apply Kd.R_drewN | apply Kd.R_drew)); exact HO_472001.out) hb); have n3_ := Aside0.mk (blk_below (g := gb451) (o := .cells #[.int .i64 t446, .slice Ao14 t447.length co14] 25 (0, 0)) (by (with_reducible repeat (first | refine blk_drewN ?_ _ | refine blk_drew ?_ | refine blk_alloc ?_ _)); exact BK451.out) hb); have n4_ := Aside0.mk (blk_below (g := gb462) (o := .cells #[.int .i64 t454, .slice Ao19 t455.length co19] 25 (0, 0)) (by (with_reducible repeat (first | refine blk_drewN ?_ _ | refine blk_drew ?_ | refine blk_alloc ?_ _)); exact BK462.out) hb); have n5_ := Aside0.mk (blk_below (g := gb471) (o := .cells #[.int .i64 t463, .slice Ao25 t464.length co25] 25 (0, 0)) (by (with_reducible repeat (first | refine blk_drewN ?_ _ | refine blk_drew ?_ | refine blk_alloc ?_ _)); exact BK471.out) hb); have n6_ := Aside0.mk (below_step (by repeat (first | (with_reducible first | exact HB.out | apply below_alloc | apply pw_below_drewN | apply below_drew1 | refine below_set ?_ GE451.out | refine below_set ?_ GE462.out | refine below_set ?_ GE471.out) | exact HB.out)) hb); clear HO_452001; clear HO_463001; clear HO_472001; clear BK451; clear BK462; clear BK471; clear HB; have HO_452001 := n0_; have HO_463001 := n1_; have HO_472001 := n2_; have BK451 := n3_; have BK462 := n4_; have BK471 := n5_; have HB := n6_; clear n0_ n1_ n2_ n3_ n4_ n5_ n6_; (try clear hb); (try clear hb2); (try clear hk); (try clear hi); have hcz54_0 : w53.cell? ⟨gb462, 0, none⟩ = some (.int .i64 t454) := (blk_cell BK462.out 0).trans rfl; have hcz54_1 : w53.cell? ⟨gb462, 1, none⟩ = some (.slice Ao19 t455.length co19) := (blk_cell BK462.out 1).trans rfl; have hfz54_0 := blk_frozen BK462.out 0; have hfz54_1 := blk_frozen BK462.out 1) | ((with_reducible refine gate_callee (f := 44) rfl ?_); refine goesL_ (some 114) rfl rfl Try.func44 (by kernel_rfl) rfl #[.agg #[.int .i64 t454, .slice Ao19 t455.length co19], .int .i64 (wrap64 (1 + t453))] rfl (by (try simp only [List.map_toArray, List.map_cons, List.map_nil]); first | done | rfl | (simp only [List.length_drop, List.length_take]; rfl)) ?_; (with_reducible refine (table_Of.calls t454 _ _ t455 (wrap64 (1 + t453)) t478 t481 _ ?side1 ?side2 A48.out).mono ?_); (case side1 => repeat (first | exact (Kd.R_reads' HO_463001.out).2.2 | (with_reducible refine Kd.C_alloc ?_ _) | (with_reducible refine Kd.C_drewN ?_ _) | (with_reducible refine Kd.C_drew ?_))); (case side2 => exact (Kd.R_reads' HO_463001.out).2.1); rintro e w55 ⟨v479, rfl, ho0, hb⟩; refine ⟨_, rfl, ?_⟩; have n0_ := Aside0.mk (Kd.R_elder' (by (with_reducible repeat (first | apply Kd.R_alloc | apply Kd.R_drewN | apply Kd.R_drew)); exact HO_452001.out) (Kd.R_base ho0) hb); have n1_ := Aside0.mk (Kd.R_elder' (by (with_reducible repeat (first | apply Kd.R_alloc | apply Kd.R_drewN | apply Kd.R_drew)); exact HO_463001.out) (Kd.R_base ho0) hb); have n2_ := Aside0.mk (Kd.R_elder' (by (with_reducible repeat (first | apply Kd.R_alloc | apply Kd.R_drewN | apply Kd.R_drew)); exact HO_472001.out) (Kd.R_base ho0) hb); have n3_ := Aside0.mk (Kd.R_lower (Kd.R_new' (Kd.R_new' (Kd.R_new' ho0 (Kd.R_lt (by (with_reducible repeat (first | apply Kd.R_alloc | apply Kd.R_drewN | apply Kd.R_drew)); exact HO_452001.out))) (Kd.R_lt (by (with_reducible repeat (first | apply Kd.R_alloc | apply Kd.R_drewN | apply Kd.R_drew)); exact HO_463001.out))) (Kd.R_lt (by (with_reducible repeat (first | apply Kd.R_alloc | apply Kd.R_drewN | apply Kd.R_drew)); exact HO_472001.out))) (below_size (by repeat (first | (with_reducible first | exact HB.out | apply below_alloc | apply pw_below_drewN | apply below_drew1 | refine below_set ?_ GE451.out | refine below_set ?_ GE462.out | refine below_set ?_ GE471.out) | exact HB.out)))); have n4_ := Aside0.mk (blk_below (g := gb451) (o := .cells #[.int .i64 t446, .slice Ao14 t447.length co14] 25 (0, 0)) (by (with_reducible repeat (first | refine blk_drewN ?_ _ | refine blk_drew ?_ | refine blk_alloc ?_ _)); exact BK451.out) hb); have n5_ := Aside0.mk (blk_below (g := gb462) (o := .cells #[.int .i64 t454, .slice Ao19 t455.length co19] 25 (0, 0)) (by (with_reducible repeat (first | refine blk_drewN ?_ _ | refine blk_drew ?_ | refine blk_alloc ?_ _)); exact BK462.out) hb); have n6_ := Aside0.mk (blk_below (g := gb471) (o := .cells #[.int .i64 t463, .slice Ao25 t464.length co25] 25 (0, 0)) (by (with_reducible repeat (first | refine blk_drewN ?_ _ | refine blk_drew ?_ | refine blk_alloc ?_ _)); exact BK471.out) hb); have n7_ := Aside0.mk (below_step (by repeat (first | (with_reducible first | exact HB.out | apply below_alloc | apply pw_below_drewN | apply below_drew1 | refine below_set ?_ GE451.out | refine below_set ?_ GE462.out | refine below_set ?_ GE471.out) | exact HB.out)) hb); clear HO_452001; clear HO_463001; clear HO_472001; clear BK451; clear BK462; clear BK471; clear HB; have HO_452001 := n0_; have HO_463001 := n1_; have HO_472001 := n2_; have HO480 := n3_; have BK451 := n4_; have BK462 := n5_; have BK471 := n6_; have HB := n7_; clear n0_ n1_ n2_ n3_ n4_ n5_ n6_ n7_; (try clear hb); (try clear hb2); (try clear hk); (try clear hi); (try clear ho0)))
        (try simp only [Act.put, List.setIfInBounds_toArray, List.set_cons_zero, List.set_cons_succ])
        go_cut [132] (fun v132 wc => ∃ (kq : Nat) (x132_48 : Bool), v132 = .bool x132_48 ∧ Aside0 (L21_TableKeeps.j1 kq t452 t478 x132_48 t446 t447 = some true) ∧ Aside0 (kq ≤ kj9) ∧ Aside0 (Kd.R k29 29 wc w.heap.size (fun k_ => some k_ ≠ ((.slice Ao14 t447.length co14) : Value).ownBlock ∧ some k_ ≠ ((.slice Ao19 t455.length co19) : Value).ownBlock ∧ some k_ ≠ ((.slice Ao25 t464.length co25) : Value).ownBlock) v479 t478) ∧ Aside0 (Kd.R k29 29 wc w.heap.size (fun k_ => some k_ ≠ (v479 : Value).ownBlock ∧ some k_ ≠ ((.slice Ao19 t455.length co19) : Value).ownBlock ∧ some k_ ≠ ((.slice Ao25 t464.length co25) : Value).ownBlock) (.slice Ao14 t447.length co14) t447) ∧ Aside0 (Kd.R k29 29 wc w.heap.size (fun k_ => some k_ ≠ (v479 : Value).ownBlock ∧ some k_ ≠ ((.slice Ao14 t447.length co14) : Value).ownBlock ∧ some k_ ≠ ((.slice Ao25 t464.length co25) : Value).ownBlock) (.slice Ao19 t455.length co19) t455) ∧ Aside0 (Kd.R k29 29 wc w.heap.size (fun k_ => some k_ ≠ (v479 : Value).ownBlock ∧ some k_ ≠ ((.slice Ao14 t447.length co14) : Value).ownBlock ∧ some k_ ≠ ((.slice Ao19 t455.length co19) : Value).ownBlock) (.slice Ao25 t464.length co25) t464) ∧ Aside0 (wc.heap[gb451]? = some (.cells #[.int .i64 t446, (.slice Ao14 t447.length co14)] 25 (0, 0))) ∧ Aside0 (wc.heap[gb462]? = some (.cells #[.int .i64 t454, (.slice Ao19 t455.length co19)] 25 (0, 0))) ∧ Aside0 (wc.heap[gb471]? = some (.cells #[.int .i64 t463, (.slice Ao25 t464.length co25)] 25 (0, 0))) ∧ Aside0 (Below w.heap.size w wc))
        case first =>
          have H := HC49.out
          clear HC49
          by_cases c56 : t477 = 0
          · rw [if_pos c56] at H
            have c56b0 : (t477 == 0) = true := beq_iff_eq.mpr c56
            have c56b1 : (t477 != 0) = false := bne_eq_false_iff_eq.mpr c56
            clear c56
            (first | rw [c56b0] | (simp only [i64_w, i32_w]; rw [c56b0]) | skip)
            by_cases c57 : t481 = 0
            · rw [if_pos c57] at H
              have c57b0 : (t481 == 0) = true := beq_iff_eq.mpr c57
              have c57b1 : (t481 != 0) = false := bne_eq_false_iff_eq.mpr c57
              clear c57
              obtain ⟨ji58, hji58⟩ : ∃ j_ : Int, (IntKind.u64.wrap (t452)) = j_ := ⟨_, rfl⟩
              replace H : (if 0 ≤ (ji58) then (L21_TableKeeps.j1 kj9 t452 t478 ((Int.tmod (shr .u64 (Go.bits .or .u64 t475 t476) (ji58)) 2) == 1) t446 t447) else (none)) = some true := by first | (rw [hji58] at H; exact H) | (simp only [hji58] at H ⊢; exact H)
              by_cases c59 : 0 ≤ (ji58)
              · rw [if_pos c59] at H
                have c59b0 := eq_true c59
                have c59b1 : decide (0 ≤ (ji58)) = true := decide_eq_true c59
                clear c59
                obtain ⟨ji60, hji60⟩ : ∃ j_ : Int, (shr .u64 (Go.bits .or .u64 t475 t476) (ji58)) = j_ := ⟨_, rfl⟩
                replace H : (L21_TableKeeps.j1 kj9 t452 t478 ((Int.tmod (ji60) 2) == 1) t446 t447) = some true := by first | (rw [hji60] at H; exact H) | (simp only [hji60] at H ⊢; exact H)
                have hji60_ : ((Go.bits .or .u64 t475 t476) / 2 ^ min (ji58).toNat 64) = ji60 := hji60
                have hji60z : (ji58) ≤ 64 → ((Go.bits .or .u64 t475 t476) / 2 ^ (ji58).toNat) = ji60 := shr_small hji60
                have H' := Aside0.mk H
                clear H
                go_wp2
                go_meet
                case rel => exact ⟨_, (((Int.tmod (ji60) 2) == 1)), (by first | rfl | (simp; done) | (simp only [← hji60] <;> (first | rfl | simp)) | (simp [*]; done)), H', ⟨by have := HJ9.out; first | omega | exact Nat.le_refl _⟩, ⟨by (with_reducible repeat (first | apply Kd.R_alloc | apply Kd.R_drewN | apply Kd.R_drew)); exact Kd.R_mono HO480.out (fun _ hk => ⟨hk.1.1.2, ⟨hk.1.2, hk.2⟩⟩)⟩, ⟨by (with_reducible repeat (first | apply Kd.R_alloc | apply Kd.R_drewN | apply Kd.R_drew)); exact Kd.R_mono HO_452001.out (fun _ hk => ⟨hk.2, ⟨hk.1.1, hk.1.2⟩⟩)⟩, ⟨by (with_reducible repeat (first | apply Kd.R_alloc | apply Kd.R_drewN | apply Kd.R_drew)); exact Kd.R_mono HO_463001.out (fun _ hk => ⟨hk.2, ⟨hk.1.1, hk.1.2⟩⟩)⟩, ⟨by (with_reducible repeat (first | apply Kd.R_alloc | apply Kd.R_drewN | apply Kd.R_drew)); exact Kd.R_mono HO_472001.out (fun _ hk => ⟨hk.2, ⟨hk.1.1, hk.1.2⟩⟩)⟩, ⟨by (with_reducible repeat (first | refine blk_drewN ?_ _ | refine blk_drew ?_ | refine blk_alloc ?_ _)); exact BK451.out⟩, ⟨by (with_reducible repeat (first | refine blk_drewN ?_ _ | refine blk_drew ?_ | refine blk_alloc ?_ _)); exact BK462.out⟩, ⟨by (with_reducible repeat (first | refine blk_drewN ?_ _ | refine blk_drew ?_ | refine blk_alloc ?_ _)); exact BK471.out⟩, ⟨by repeat (first | (with_reducible first | exact HB.out | apply below_alloc | apply pw_below_drewN | apply below_drew1 | refine below_set ?_ GE451.out | refine below_set ?_ GE462.out | refine below_set ?_ GE471.out) | exact HB.out)⟩⟩
              · rw [if_neg c59] at H
                exact absurd H (by repeat (first | exact never_none | exact never_false | refine never_ite ?_ ?_ | refine never_bind (fun _ => ?_) | exact L21_TableKeeps.j0_d104true _ _ _ _ _ _ _ | exact L21_TableKeeps.j1_d132true _ _ _ _ _))
            · rw [if_neg c57] at H
              have c57b0 : (t481 == 0) = false := beq_eq_false_iff_ne.mpr c57
              have c57b1 : (t481 != 0) = true := bne_iff_ne.mpr c57
              exact absurd H (by repeat (first | exact never_none | exact never_false | refine never_ite ?_ ?_ | refine never_bind (fun _ => ?_) | exact L21_TableKeeps.j0_d104true _ _ _ _ _ _ _ | exact L21_TableKeeps.j1_d132true _ _ _ _ _))
          · rw [if_neg c56] at H
            have c56b0 : (t477 == 0) = false := beq_eq_false_iff_ne.mpr c56
            have c56b1 : (t477 != 0) = true := bne_iff_ne.mpr c56
            (first | rw [c56b0] | (simp only [i64_w, i32_w]; rw [c56b0]) | skip)
            exact absurd H (by repeat (first | exact never_none | exact never_false | refine never_ite ?_ ?_ | refine never_bind (fun _ => ?_) | exact L21_TableKeeps.j0_d104true _ _ _ _ _ _ _ | exact L21_TableKeeps.j1_d132true _ _ _ _ _))
        case rest =>
          clear HC49
          try clear c1
          try clear c2
          try clear p2
          try clear c3
          try clear c4
          try clear c5
          try clear p6
          try clear c7
          try clear c17
          try clear c22
          try clear c23
          try clear c26
          try clear c27
          try clear c27b0
          try clear c27b1
          try clear c28
          try clear c28b0
          try clear c28b1
          try clear c29
          try clear c29b0
          try clear c29b1
          try clear c29b2
          try clear c31
          try clear c33
          try clear c35
          try clear c37
          try clear c38
          try clear c40
          try clear c42
          try clear c44
          try clear c46
          try clear c47
          try clear c50
          try clear c51
          try clear c56
          try clear c56b0
          try clear c56b1
          try clear c57
          try clear c57b0
          try clear c57b1
          try clear c59
          try clear c59b0
          try clear c59b1
          try clear hcz13_0
          try clear hcz13_1
          try clear hcz18_0
          try clear hcz18_1
          try clear hcz24_0
          try clear hcz24_1
          try clear hcz39_0
          try clear hcz39_1
          try clear hcz41_0
          try clear hcz41_1
          try clear hcz43_0
          try clear hcz43_1
          try clear hcz44_0
          try clear hcz44_1
          try clear hcz52_0
          try clear hcz52_1
          try clear hcz54_0
          try clear hcz54_1
          try clear hfz13_0
          try clear hfz13_1
          try clear hfz18_0
          try clear hfz18_1
          try clear hfz24_0
          try clear hfz24_1
          try clear hfz39_0
          try clear hfz39_1
          try clear hfz41_0
          try clear hfz41_1
          try clear hfz43_0
          try clear hfz43_1
          try clear hfz44_0
          try clear hfz44_1
          try clear hfz52_0
          try clear hfz52_1
          try clear hfz54_0
          try clear hfz54_1
          try clear p2
          try clear p6
          obtain ⟨kq, x132_48, rfl, HA, HJ48, HO_21, HO_452001, HO_463001, HO_472001, BK451, BK462, BK471, HB⟩ := hcut
          cases kq with
          | zero => exact absurd HA.out (by simp [L21_TableKeeps.j1])
          | succ kj48 =>
            have H := HA.out
            clear HA
            simp only [L21_TableKeeps.j1] at H
            by_cases c61 : x132_48 = true
            · subst c61
              have H1 : (some false) = some true := by rw [if_pos rfl] at H; exact H
              clear H
              have H := H1
              clear H1
              exact absurd H (by repeat (first | exact never_none | exact never_false | refine never_ite ?_ ?_ | refine never_bind (fun _ => ?_) | exact L21_TableKeeps.j0_d104true _ _ _ _ _ _ _ | exact L21_TableKeeps.j1_d132true _ _ _ _ _))
            · replace c61 := Bool.eq_false_iff.mpr c61
              subst c61
              have H1 : (L21_TableKeeps.l0 kj48 t452 t478 0 t446 t447) = some true := by rw [if_neg (show ¬ (false = true) by decide)] at H; exact H
              clear H
              have H := H1
              clear H1
              have H' := Aside0.mk H
              clear H
              go_wp2
              go_loopg [22] kj48 (fun kq v22 w' => ∃ (x22_3 : Int), v22 = .int .i64 x22_3 ∧ Aside0 (L21_TableKeeps.l0 kq t452 t478 x22_3 t446 t447 = some true) ∧ Aside0 (kq ≤ kj48) ∧ Aside0 (Kd.R k29 29 w' w.heap.size (fun k_ => some k_ ≠ ((.slice Ao14 t447.length co14) : Value).ownBlock ∧ some k_ ≠ ((.slice Ao19 t455.length co19) : Value).ownBlock ∧ some k_ ≠ ((.slice Ao25 t464.length co25) : Value).ownBlock) v479 t478) ∧ Aside0 (Kd.R k29 29 w' w.heap.size (fun k_ => some k_ ≠ (v479 : Value).ownBlock ∧ some k_ ≠ ((.slice Ao19 t455.length co19) : Value).ownBlock ∧ some k_ ≠ ((.slice Ao25 t464.length co25) : Value).ownBlock) (.slice Ao14 t447.length co14) t447) ∧ Aside0 (Kd.R k29 29 w' w.heap.size (fun k_ => some k_ ≠ (v479 : Value).ownBlock ∧ some k_ ≠ ((.slice Ao14 t447.length co14) : Value).ownBlock ∧ some k_ ≠ ((.slice Ao25 t464.length co25) : Value).ownBlock) (.slice Ao19 t455.length co19) t455) ∧ Aside0 (Kd.R k29 29 w' w.heap.size (fun k_ => some k_ ≠ (v479 : Value).ownBlock ∧ some k_ ≠ ((.slice Ao14 t447.length co14) : Value).ownBlock ∧ some k_ ≠ ((.slice Ao19 t455.length co19) : Value).ownBlock) (.slice Ao25 t464.length co25) t464) ∧ Aside0 (w'.heap[gb451]? = some (.cells #[.int .i64 t446, (.slice Ao14 t447.length co14)] 25 (0, 0))) ∧ Aside0 (w'.heap[gb462]? = some (.cells #[.int .i64 t454, (.slice Ao19 t455.length co19)] 25 (0, 0))) ∧ Aside0 (w'.heap[gb471]? = some (.cells #[.int .i64 t463, (.slice Ao25 t464.length co25)] 25 (0, 0))) ∧ Aside0 (Below w.heap.size w w'))
              case atStart => exact ⟨(0), (by first | rfl | (simp; done) | (simp [*]; done)), H', ⟨Nat.le_refl _⟩, ⟨by (with_reducible repeat (first | apply Kd.R_alloc | apply Kd.R_drewN | apply Kd.R_drew)); exact HO_21.out⟩, ⟨by (with_reducible repeat (first | apply Kd.R_alloc | apply Kd.R_drewN | apply Kd.R_drew)); exact HO_452001.out⟩, ⟨by (with_reducible repeat (first | apply Kd.R_alloc | apply Kd.R_drewN | apply Kd.R_drew)); exact HO_463001.out⟩, ⟨by (with_reducible repeat (first | apply Kd.R_alloc | apply Kd.R_drewN | apply Kd.R_drew)); exact HO_472001.out⟩, ⟨by (with_reducible repeat (first | refine blk_drewN ?_ _ | refine blk_drew ?_ | refine blk_alloc ?_ _)); exact BK451.out⟩, ⟨by (with_reducible repeat (first | refine blk_drewN ?_ _ | refine blk_drew ?_ | refine blk_alloc ?_ _)); exact BK462.out⟩, ⟨by (with_reducible repeat (first | refine blk_drewN ?_ _ | refine blk_drew ?_ | refine blk_alloc ?_ _)); exact BK471.out⟩, ⟨by repeat (first | (with_reducible first | exact HB.out | apply below_alloc | apply pw_below_drewN | apply below_drew1 | refine below_set ?_ GE451.out | refine below_set ?_ GE462.out | refine below_set ?_ GE471.out) | exact HB.out)⟩⟩
              case round =>
                clear H'
                try clear c1
                try clear c2
                try clear p2
                try clear c3
                try clear c4
                try clear c5
                try clear c6
                try clear p6
                try clear c7
                try clear c17
                try clear c22
                try clear c23
                try clear c26
                try clear c27
                try clear c27b0
                try clear c27b1
                try clear c28
                try clear c28b0
                try clear c28b1
                try clear c29
                try clear c29b0
                try clear c29b1
                try clear c29b2
                try clear c31
                try clear c33
                try clear c35
                try clear c37
                try clear c38
                try clear c40
                try clear c42
                try clear c44
                try clear c46
                try clear c47
                try clear c50
                try clear c51
                try clear c56
                try clear c56b0
                try clear c56b1
                try clear c57
                try clear c57b0
                try clear c57b1
                try clear c59
                try clear c59b0
                try clear c59b1
                try clear c61
                try clear hcz13_0
                try clear hcz13_1
                try clear hcz18_0
                try clear hcz18_1
                try clear hcz24_0
                try clear hcz24_1
                try clear hcz39_0
                try clear hcz39_1
                try clear hcz41_0
                try clear hcz41_1
                try clear hcz43_0
                try clear hcz43_1
                try clear hcz44_0
                try clear hcz44_1
                try clear hcz52_0
                try clear hcz52_1
                try clear hcz54_0
                try clear hcz54_1
                try clear hfz13_0
                try clear hfz13_1
                try clear hfz18_0
                try clear hfz18_1
                try clear hfz24_0
                try clear hfz24_1
                try clear hfz39_0
                try clear hfz39_1
                try clear hfz41_0
                try clear hfz41_1
                try clear hfz43_0
                try clear hfz43_1
                try clear hfz44_0
                try clear hfz44_1
                try clear hfz52_0
                try clear hfz52_1
                try clear hfz54_0
                try clear hfz54_1
                try clear p2
                try clear p6
                obtain ⟨x22_3, rfl, HA, HK3, HO_21, HO_452001, HO_463001, HO_472001, BK451, BK462, BK471, HB⟩ := hrel
                cases gk with
                | zero => exact absurd HA.out (by simp [L21_TableKeeps.l0])
                | succ k3 =>
                  have H := HA.out
                  clear HA
                  simp only [L21_TableKeeps.l0] at H
                  by_cases c62 : x22_3 < (t478.length : Int)
                  · rw [if_pos c62] at H
                    have c62b0 : decide (x22_3 < (t478.length : Int)) = true := decide_eq_true c62
                    clear c62
                    by_cases c63 : 0 ≤ x22_3
                    · rw [if_pos c63] at H
                      have c63b0 : decide (0 ≤ x22_3) = true := decide_eq_true c63
                      clear c63
                      by_cases c64 : ((rd_T29 t478 x22_3).f1) = t452
                      · rw [if_pos c64] at H
                        have c64b0 : (((rd_T29 t478 x22_3).f1) == t452) = true := beq_iff_eq.mpr c64
                        have c64b1 : (((rd_T29 t478 x22_3).f1) != t452) = false := bne_eq_false_iff_eq.mpr c64
                        clear c64
                        exact absurd H (by repeat (first | exact never_none | exact never_false | refine never_ite ?_ ?_ | refine never_bind (fun _ => ?_) | exact L21_TableKeeps.j0_d104true _ _ _ _ _ _ _ | exact L21_TableKeeps.j1_d132true _ _ _ _ _))
                      · rw [if_neg c64] at H
                        have c64b0 : (((rd_T29 t478 x22_3).f1) == t452) = false := beq_eq_false_iff_ne.mpr c64
                        have c64b1 : (((rd_T29 t478 x22_3).f1) != t452) = true := bne_iff_ne.mpr c64
                        have H' := Aside0.mk H
                        clear H
                        obtain ⟨Ao65, co65, eo65⟩ := Kd.R_slice HO_21.out
                        subst eo65
                        have p482 : 0 ≤ (x22_3 : Int) := of_decide_eq_true (by first | (with_reducible assumption) | assumption)
                        have q482 : x22_3 < (t478.length : Int) := of_decide_eq_true (by first | (with_reducible assumption) | assumption)
                        obtain ⟨ad482, e482, hx482_0, hx482_1, hx482_2, hx482_3⟩ := at_T29 (Kd.R_reads' HO_21.out).2.2 x22_3 p482 q482
                        cases e482
                        replace p482 := eq_true p482
                        replace q482 := eq_true q482
                        go_wp2
                        go_roundg k3
                        case measure => have := HJ9.out; have := HJ48.out; have := HK3.out; omega
                        case rel => exact ⟨(wrap64 (x22_3 + 1)), (by first | rfl | (simp; done) | (simp [*]; done)), H', ⟨by have := HJ9.out; have := HJ48.out; have := HK3.out; omega⟩, ⟨by (with_reducible repeat (first | apply Kd.R_alloc | apply Kd.R_drewN | apply Kd.R_drew)); exact HO_21.out⟩, ⟨by (with_reducible repeat (first | apply Kd.R_alloc | apply Kd.R_drewN | apply Kd.R_drew)); exact HO_452001.out⟩, ⟨by (with_reducible repeat (first | apply Kd.R_alloc | apply Kd.R_drewN | apply Kd.R_drew)); exact HO_463001.out⟩, ⟨by (with_reducible repeat (first | apply Kd.R_alloc | apply Kd.R_drewN | apply Kd.R_drew)); exact HO_472001.out⟩, ⟨by (with_reducible repeat (first | refine blk_drewN ?_ _ | refine blk_drew ?_ | refine blk_alloc ?_ _)); exact BK451.out⟩, ⟨by (with_reducible repeat (first | refine blk_drewN ?_ _ | refine blk_drew ?_ | refine blk_alloc ?_ _)); exact BK462.out⟩, ⟨by (with_reducible repeat (first | refine blk_drewN ?_ _ | refine blk_drew ?_ | refine blk_alloc ?_ _)); exact BK471.out⟩, ⟨by repeat (first | (with_reducible first | exact HB.out | apply below_alloc | apply pw_below_drewN | apply below_drew1 | refine below_set ?_ GE451.out | refine below_set ?_ GE462.out | refine below_set ?_ GE471.out) | exact HB.out)⟩⟩
                    · rw [if_neg c63] at H
                      exact absurd H (by repeat (first | exact never_none | exact never_false | refine never_ite ?_ ?_ | refine never_bind (fun _ => ?_) | exact L21_TableKeeps.j0_d104true _ _ _ _ _ _ _ | exact L21_TableKeeps.j1_d132true _ _ _ _ _))
                  · rw [if_neg c62] at H
                    have c62b0 : decide (x22_3 < (t478.length : Int)) = false := decide_eq_false c62
                    clear c62
                    replace H := Option.bind_eq_some_iff.mp H
                    obtain ⟨⟨t483, t484, t487, t490⟩, A660, H⟩ := H
                    replace H : ((table_Wipe.f t483 t484).bind fun bt492 => ((table_Halls.f k3 t446 t447).bind fun bt501 => ((table_Halls.f k3 t483 t484).bind fun bt504 => (if t490 = 0 then (if bt492.2.2.2 = 0 then (if bt501.2.2 = 0 then (if bt504.2.2 = 0 then (if (bt492.2.2.1.length : Int) = 0 then ((K_SameTable.f k3 t483 t484 bt492.1 bt492.2.1).bind fun t507 => (if t507 = true then ((L21_in.f k3 t484 t447).bind fun t508 => (if t508 = true then (if (wrap64 ((t484.length : Int) + (t487.length : Int))) = (t447.length : Int) then (if bt501.1 = bt504.1 then (if bt501.2.1 = bt504.2.1 then ((L21_awake.f k3).bind fun t509 => (some t509)) else (some false)) else (some false)) else (some false)) else (some false))) else (some false))) else (some false)) else (some false)) else (some false)) else (some false)) else (some false))))) = some true := H
                    have A66 := Aside0.mk A660
                    clear A660
                    replace H := Option.bind_eq_some_iff.mp H
                    obtain ⟨⟨t492, t493, t496, t499⟩, A670, H⟩ := H
                    replace H : ((table_Halls.f k3 t446 t447).bind fun bt501 => ((table_Halls.f k3 t483 t484).bind fun bt504 => (if t490 = 0 then (if t499 = 0 then (if bt501.2.2 = 0 then (if bt504.2.2 = 0 then (if (t496.length : Int) = 0 then ((K_SameTable.f k3 t483 t484 t492 t493).bind fun t507 => (if t507 = true then ((L21_in.f k3 t484 t447).bind fun t508 => (if t508 = true then (if (wrap64 ((t484.length : Int) + (t487.length : Int))) = (t447.length : Int) then (if bt501.1 = bt504.1 then (if bt501.2.1 = bt504.2.1 then ((L21_awake.f k3).bind fun t509 => (some t509)) else (some false)) else (some false)) else (some false)) else (some false))) else (some false))) else (some false)) else (some false)) else (some false)) else (some false)) else (some false)))) = some true := H
                    have A67 := Aside0.mk A670
                    clear A670
                    replace H := Option.bind_eq_some_iff.mp H
                    obtain ⟨⟨t501, t502, t503⟩, A680, H⟩ := H
                    replace H : ((table_Halls.f k3 t483 t484).bind fun bt504 => (if t490 = 0 then (if t499 = 0 then (if t503 = 0 then (if bt504.2.2 = 0 then (if (t496.length : Int) = 0 then ((K_SameTable.f k3 t483 t484 t492 t493).bind fun t507 => (if t507 = true then ((L21_in.f k3 t484 t447).bind fun t508 => (if t508 = true then (if (wrap64 ((t484.length : Int) + (t487.length : Int))) = (t447.length : Int) then (if t501 = bt504.1 then (if t502 = bt504.2.1 then ((L21_awake.f k3).bind fun t509 => (some t509)) else (some false)) else (some false)) else (some false)) else (some false))) else (some false))) else (some false)) else (some false)) else (some false)) else (some false)) else (some false))) = some true := H
                    have A68 := Aside0.mk A680
                    clear A680
                    replace H := Option.bind_eq_some_iff.mp H
                    obtain ⟨⟨t504, t505, t506⟩, A690, H⟩ := H
                    replace H : (if t490 = 0 then (if t499 = 0 then (if t503 = 0 then (if t506 = 0 then (if (t496.length : Int) = 0 then ((K_SameTable.f k3 t483 t484 t492 t493).bind fun t507 => (if t507 = true then ((L21_in.f k3 t484 t447).bind fun t508 => (if t508 = true then (if (wrap64 ((t484.length : Int) + (t487.length : Int))) = (t447.length : Int) then (if t501 = t504 then (if t502 = t505 then ((L21_awake.f k3).bind fun t509 => (some t509)) else (some false)) else (some false)) else (some false)) else (some false))) else (some false))) else (some false)) else (some false)) else (some false)) else (some false)) else (some false)) = some true := H
                    have A69 := Aside0.mk A690
                    clear A690
                    by_cases c70 : t490 = 0
                    · rw [if_pos c70] at H
                      have c70b0 : (t490 == 0) = true := beq_iff_eq.mpr c70
                      have c70b1 : (t490 != 0) = false := bne_eq_false_iff_eq.mpr c70
                      clear c70
                      by_cases c71 : t499 = 0
                      · rw [if_pos c71] at H
                        have c71b0 : (t499 == 0) = true := beq_iff_eq.mpr c71
                        have c71b1 : (t499 != 0) = false := bne_eq_false_iff_eq.mpr c71
                        clear c71
                        by_cases c72 : t503 = 0
                        · rw [if_pos c72] at H
                          have c72b0 : (t503 == 0) = true := beq_iff_eq.mpr c72
                          have c72b1 : (t503 != 0) = false := bne_eq_false_iff_eq.mpr c72
                          clear c72
                          by_cases c73 : t506 = 0
                          · rw [if_pos c73] at H
                            have c73b0 : (t506 == 0) = true := beq_iff_eq.mpr c73
                            have c73b1 : (t506 != 0) = false := bne_eq_false_iff_eq.mpr c73
                            clear c73
                            by_cases c74 : (t496.length : Int) = 0
                            · rw [if_pos c74] at H
                              have c74b0 : ((t496.length : Int) == 0) = true := beq_iff_eq.mpr c74
                              have c74b1 : ((t496.length : Int) != 0) = false := bne_eq_false_iff_eq.mpr c74
                              clear c74
                              replace H := Option.bind_eq_some_iff.mp H
                              obtain ⟨t507, A750, H⟩ := H
                              replace H : (if t507 = true then ((L21_in.f k3 t484 t447).bind fun t508 => (if t508 = true then (if (wrap64 ((t484.length : Int) + (t487.length : Int))) = (t447.length : Int) then (if t501 = t504 then (if t502 = t505 then ((L21_awake.f k3).bind fun t509 => (some t509)) else (some false)) else (some false)) else (some false)) else (some false))) else (some false)) = some true := H
                              have A75 := Aside0.mk A750
                              clear A750
                              by_cases c76 : t507 = true
                              · subst c76
                                have H1 : ((L21_in.f k3 t484 t447).bind fun t508 => (if t508 = true then (if (wrap64 ((t484.length : Int) + (t487.length : Int))) = (t447.length : Int) then (if t501 = t504 then (if t502 = t505 then ((L21_awake.f k3).bind fun t509 => (some t509)) else (some false)) else (some false)) else (some false)) else (some false))) = some true := by rw [if_pos rfl] at H; exact H
                                clear H
                                have H := H1
                                clear H1
                                replace H := Option.bind_eq_some_iff.mp H
                                obtain ⟨t508, A770, H⟩ := H
                                replace H : (if t508 = true then (if (wrap64 ((t484.length : Int) + (t487.length : Int))) = (t447.length : Int) then (if t501 = t504 then (if t502 = t505 then ((L21_awake.f k3).bind fun t509 => (some t509)) else (some false)) else (some false)) else (some false)) else (some false)) = some true := H
                                have A77 := Aside0.mk A770
                                clear A770
                                by_cases c78 : t508 = true
                                · subst c78
                                  have H1 : (if (wrap64 ((t484.length : Int) + (t487.length : Int))) = (t447.length : Int) then (if t501 = t504 then (if t502 = t505 then ((L21_awake.f k3).bind fun t509 => (some t509)) else (some false)) else (some false)) else (some false)) = some true := by rw [if_pos rfl] at H; exact H
                                  clear H
                                  have H := H1
                                  clear H1
                                  by_cases c79 : (wrap64 ((t484.length : Int) + (t487.length : Int))) = (t447.length : Int)
                                  · rw [if_pos c79] at H
                                    have c79b0 : ((wrap64 ((t484.length : Int) + (t487.length : Int))) == (t447.length : Int)) = true := beq_iff_eq.mpr c79
                                    have c79b1 : ((wrap64 ((t484.length : Int) + (t487.length : Int))) != (t447.length : Int)) = false := bne_eq_false_iff_eq.mpr c79
                                    clear c79
                                    by_cases c80 : t501 = t504
                                    · rw [if_pos c80] at H
                                      have c80b0 : (t501 == t504) = true := beq_iff_eq.mpr c80
                                      have c80b1 : (t501 != t504) = false := bne_eq_false_iff_eq.mpr c80
                                      clear c80
                                      by_cases c81 : t502 = t505
                                      · rw [if_pos c81] at H
                                        have c81b0 : (t502 == t505) = true := beq_iff_eq.mpr c81
                                        have c81b1 : (t502 != t505) = false := bne_eq_false_iff_eq.mpr c81
                                        clear c81
                                        replace H := Option.bind_eq_some_iff.mp H
                                        obtain ⟨t509, A820, H⟩ := H
                                        replace H : (some t509) = some true := H
                                        have A82 := Aside0.mk A820
                                        clear A820
                                        have Ht_ := Option.some.inj H
                                        clear H
                                        subst Ht_
                                        have H : (some true : Option Bool) = some true := rfl
                                        clear H
                                        obtain ⟨Ao83, co83, eo83⟩ := Kd.R_slice HO_21.out
                                        subst eo83
                                        have hnb84 := NB451_462.out
                                        have hnc84 := NB462_451.out
                                        have hnb85 := NB451_471.out
                                        have hnc85 := NB471_451.out
                                        have hcz86_0 : wr.cell? ⟨gb451, 0, none⟩ = some (.int .i64 t446) := (blk_cell BK451.out 0).trans rfl
                                        have hcz86_1 : wr.cell? ⟨gb451, 1, none⟩ = some (.slice Ao14 t447.length co14) := (blk_cell BK451.out 1).trans rfl
                                        have hfz86_0 := blk_frozen BK451.out 0
                                        have hfz86_1 := blk_frozen BK451.out 1
                                        go_wp2_with (first | ((with_reducible refine gate_callee (f := 38) rfl ?_); refine goesL_ (some 148) rfl rfl Try.func38 (by kernel_rfl) rfl #[.agg #[.int .i64 t446, .slice Ao14 t447.length co14]] rfl (by (try simp only [List.map_toArray, List.map_cons, List.map_nil]); first | done | rfl | (simp only [List.length_drop, List.length_take]; rfl)) ?_; (with_reducible refine (table_Wipe.calls t446 _ _ t447 t483 t484 t487 t490 _ ?side1 ?side2 A66.out).mono ?_); (case side1 => repeat (first | exact (Kd.R_reads' HO_452001.out).2.2 | (with_reducible refine Kd.C_alloc ?_ _) | (with_reducible refine Kd.C_drewN ?_ _) | (with_reducible refine Kd.C_drew ?_))); (case side2 => exact (Kd.R_reads' HO_452001.out).2.1); rintro e w87 ⟨v485, v488, rfl, ho0, ho1, hb⟩; refine ⟨_, rfl, ?_⟩; have n0_ := Aside0.mk (Kd.R_mono (Kd.R_told (Kd.R_told (Kd.R_old (by (with_reducible repeat (first | apply Kd.R_alloc | apply Kd.R_drewN | apply Kd.R_drew)); exact HO_21.out) hb) (Kd.R_base ho0)) (Kd.R_base ho1)) (fun _ h_ => h_.1)); have n1_ := Aside0.mk (Kd.R_mono (Kd.R_told (Kd.R_told (Kd.R_old (by (with_reducible repeat (first | apply Kd.R_alloc | apply Kd.R_drewN | apply Kd.R_drew)); exact HO_452001.out) hb) (Kd.R_base ho0)) (Kd.R_base ho1)) (fun _ h_ => h_.1)); have n2_ := Aside0.mk (Kd.R_mono (Kd.R_told (Kd.R_told (Kd.R_old (by (with_reducible repeat (first | apply Kd.R_alloc | apply Kd.R_drewN | apply Kd.R_drew)); exact HO_463001.out) hb) (Kd.R_base ho0)) (Kd.R_base ho1)) (fun _ h_ => h_.1)); have n3_ := Aside0.mk (Kd.R_mono (Kd.R_told (Kd.R_told (Kd.R_old (by (with_reducible repeat (first | apply Kd.R_alloc | apply Kd.R_drewN | apply Kd.R_drew)); exact HO_472001.out) hb) (Kd.R_base ho0)) (Kd.R_base ho1)) (fun _ h_ => h_.1)); have n4_ := Aside0.mk (Kd.R_lower (Kd.R_new' (Kd.R_new' (Kd.R_new' (Kd.R_new' ho0 (Kd.R_lt (by (with_reducible repeat (first | apply Kd.R_alloc | apply Kd.R_drewN | apply Kd.R_drew)); exact HO_21.out))) (Kd.R_lt (by (with_reducible repeat (first | apply Kd.R_alloc | apply Kd.R_drewN | apply Kd.R_drew)); exact HO_452001.out))) (Kd.R_lt (by (with_reducible repeat (first | apply Kd.R_alloc | apply Kd.R_drewN | apply Kd.R_drew)); exact HO_463001.out))) (Kd.R_lt (by (with_reducible repeat (first | apply Kd.R_alloc | apply Kd.R_drewN | apply Kd.R_drew)); exact HO_472001.out))) (below_size (by repeat (first | (with_reducible first | exact HB.out | apply below_alloc | apply pw_below_drewN | apply below_drew1 | refine below_set ?_ GE451.out | refine below_set ?_ GE462.out | refine below_set ?_ GE471.out) | exact HB.out)))); have n5_ := Aside0.mk (Kd.R_lower (Kd.R_new' (Kd.R_new' (Kd.R_new' (Kd.R_new' ho1 (Kd.R_lt (by (with_reducible repeat (first | apply Kd.R_alloc | apply Kd.R_drewN | apply Kd.R_drew)); exact HO_21.out))) (Kd.R_lt (by (with_reducible repeat (first | apply Kd.R_alloc | apply Kd.R_drewN | apply Kd.R_drew)); exact HO_452001.out))) (Kd.R_lt (by (with_reducible repeat (first | apply Kd.R_alloc | apply Kd.R_drewN | apply Kd.R_drew)); exact HO_463001.out))) (Kd.R_lt (by (with_reducible repeat (first | apply Kd.R_alloc | apply Kd.R_drewN | apply Kd.R_drew)); exact HO_472001.out))) (below_size (by repeat (first | (with_reducible first | exact HB.out | apply below_alloc | apply pw_below_drewN | apply below_drew1 | refine below_set ?_ GE451.out | refine below_set ?_ GE462.out | refine below_set ?_ GE471.out) | exact HB.out)))); have n6_ := Aside0.mk (blk_below (g := gb451) (o := .cells #[.int .i64 t446, .slice Ao14 t447.length co14] 25 (0, 0)) (by (with_reducible repeat (first | refine blk_drewN ?_ _ | refine blk_drew ?_ | refine blk_alloc ?_ _)); exact BK451.out) hb); have n7_ := Aside0.mk (blk_below (g := gb462) (o := .cells #[.int .i64 t454, .slice Ao19 t455.length co19] 25 (0, 0)) (by (with_reducible repeat (first | refine blk_drewN ?_ _ | refine blk_drew ?_ | refine blk_alloc ?_ _)); exact BK462.out) hb); have n8_ := Aside0.mk (blk_below (g := gb471) (o := .cells #[.int .i64 t463, .slice Ao25 t464.length co25] 25 (0, 0)) (by (with_reducible repeat (first | refine blk_drewN ?_ _ | refine blk_drew ?_ | refine blk_alloc ?_ _)); exact BK471.out) hb); have n9_ := Aside0.mk (below_step (by repeat (first | (with_reducible first | exact HB.out | apply below_alloc | apply pw_below_drewN | apply below_drew1 | refine below_set ?_ GE451.out | refine below_set ?_ GE462.out | refine below_set ?_ GE471.out) | exact HB.out)) hb); clear HO_21; clear HO_452001; clear HO_463001; clear HO_472001; clear BK451; clear BK462; clear BK471; clear HB; have HO_21 := n0_; have HO_452001 := n1_; have HO_463001 := n2_; have HO_472001 := n3_; have HO486 := n4_; have HO489 := n5_; have BK451 := n6_; have BK462 := n7_; have BK471 := n8_; have HB := n9_; clear n0_ n1_ n2_ n3_ n4_ n5_ n6_ n7_ n8_ n9_; (try clear hb); (try clear hb2); (try clear hk); (try clear hi); (try clear ho0); (try clear ho1)) | ((with_reducible refine gate_dst (N := 23) rfl ?_); (try (refine gate_guard (by rfl) ?_; dsimp only)); refine box_event ?hg (N := 23) ?hd (cs := #[.int .i64 0, .slice none 0 0]) (t := 25) ?hr ?_; (case hd => rfl); (case hg => rfl); (case hr => first | (go_simp; done) | (go_simp; rfl)); intro gb491 hg w88 hbox hb; have n0_ := Aside0.mk (Kd.R_below (by (with_reducible repeat (first | apply Kd.R_alloc | apply Kd.R_drewN | apply Kd.R_drew)); exact HO_21.out) hb); have n1_ := Aside0.mk (Kd.R_below (by (with_reducible repeat (first | apply Kd.R_alloc | apply Kd.R_drewN | apply Kd.R_drew)); exact HO_452001.out) hb); have n2_ := Aside0.mk (Kd.R_below (by (with_reducible repeat (first | apply Kd.R_alloc | apply Kd.R_drewN | apply Kd.R_drew)); exact HO_463001.out) hb); have n3_ := Aside0.mk (Kd.R_below (by (with_reducible repeat (first | apply Kd.R_alloc | apply Kd.R_drewN | apply Kd.R_drew)); exact HO_472001.out) hb); have n4_ := Aside0.mk (Kd.R_below (by (with_reducible repeat (first | apply Kd.R_alloc | apply Kd.R_drewN | apply Kd.R_drew)); exact HO486.out) hb); have n5_ := Aside0.mk (Kd.R_below (by (with_reducible repeat (first | apply Kd.R_alloc | apply Kd.R_drewN | apply Kd.R_drew)); exact HO489.out) hb); have n6_ := Aside0.mk (blk_below (g := gb451) (o := .cells #[.int .i64 t446, .slice Ao14 t447.length co14] 25 (0, 0)) (by (with_reducible repeat (first | refine blk_drewN ?_ _ | refine blk_drew ?_ | refine blk_alloc ?_ _)); exact BK451.out) hb); have n7_ := Aside0.mk (blk_below (g := gb462) (o := .cells #[.int .i64 t454, .slice Ao19 t455.length co19] 25 (0, 0)) (by (with_reducible repeat (first | refine blk_drewN ?_ _ | refine blk_drew ?_ | refine blk_alloc ?_ _)); exact BK462.out) hb); have n8_ := Aside0.mk (blk_below (g := gb471) (o := .cells #[.int .i64 t463, .slice Ao25 t464.length co25] 25 (0, 0)) (by (with_reducible repeat (first | refine blk_drewN ?_ _ | refine blk_drew ?_ | refine blk_alloc ?_ _)); exact BK471.out) hb); have n9_ := Aside0.mk (below_step (by repeat (first | (with_reducible first | exact HB.out | apply below_alloc | apply pw_below_drewN | apply below_drew1 | refine below_set ?_ GE451.out | refine below_set ?_ GE462.out | refine below_set ?_ GE471.out) | exact HB.out)) hb); have n10_ := Aside0.mk (hbox); have n11_ := Aside0.mk ((by rw [hg]; exact (below_size (by repeat (first | (with_reducible first | exact HB.out | apply below_alloc | apply pw_below_drewN | apply below_drew1 | refine below_set ?_ GE451.out | refine below_set ?_ GE462.out | refine below_set ?_ GE471.out) | exact HB.out))) : w.heap.size ≤ gb491)); have n12_ := Aside0.mk ((by rw [hg]; exact (below_size (by repeat (first | (with_reducible first | exact HB.out | apply below_alloc | apply pw_below_drewN | apply below_drew1 | refine below_set ?_ GE451.out | refine below_set ?_ GE462.out | refine below_set ?_ GE471.out) | exact HB.out))) : w.heap.size ≤ gb491)); have n13_ := Aside0.mk ((by rw [hg]; exact Nat.ne_of_lt (blk_lt (g := gb451) (o := .cells #[.int .i64 t446, .slice Ao14 t447.length co14] 25 (0, 0)) (by (with_reducible repeat (first | refine blk_drewN ?_ _ | refine blk_drew ?_ | refine blk_alloc ?_ _)); exact BK451.out)) : gb451 ≠ gb491)); have n14_ := Aside0.mk ((by rw [hg]; exact Nat.ne_of_gt (blk_lt (g := gb451) (o := .cells #[.int .i64 t446, .slice Ao14 t447.length co14] 25 (0, 0)) (by (with_reducible repeat (first | refine blk_drewN ?_ _ | refine blk_drew ?_ | refine blk_alloc ?_ _)); exact BK451.out)) : gb491 ≠ gb451)); have n15_ := Aside0.mk ((by rw [hg]; exact Nat.ne_of_lt (blk_lt (g := gb462) (o := .cells #[.int .i64 t454, .slice Ao19 t455.length co19] 25 (0, 0)) (by (with_reducible repeat (first | refine blk_drewN ?_ _ | refine blk_drew ?_ | refine blk_alloc ?_ _)); exact BK462.out)) : gb462 ≠ gb491)); have n16_ := Aside0.mk ((by rw [hg]; exact Nat.ne_of_gt (blk_lt (g := gb462) (o := .cells #[.int .i64 t454, .slice Ao19 t455.length co19] 25 (0, 0)) (by (with_reducible repeat (first | refine blk_drewN ?_ _ | refine blk_drew ?_ | refine blk_alloc ?_ _)); exact BK462.out)) : gb491 ≠ gb462)); have n17_ := Aside0.mk ((by rw [hg]; exact Nat.ne_of_lt (blk_lt (g := gb471) (o := .cells #[.int .i64 t463, .slice Ao25 t464.length co25] 25 (0, 0)) (by (with_reducible repeat (first | refine blk_drewN ?_ _ | refine blk_drew ?_ | refine blk_alloc ?_ _)); exact BK471.out)) : gb471 ≠ gb491)); have n18_ := Aside0.mk ((by rw [hg]; exact Nat.ne_of_gt (blk_lt (g := gb471) (o := .cells #[.int .i64 t463, .slice Ao25 t464.length co25] 25 (0, 0)) (by (with_reducible repeat (first | refine blk_drewN ?_ _ | refine blk_drew ?_ | refine blk_alloc ?_ _)); exact BK471.out)) : gb491 ≠ gb471)); clear HO_21; clear HO_452001; clear HO_463001; clear HO_472001; clear HO486; clear HO489; clear BK451; clear BK462; clear BK471; clear HB; have HO_21 := n0_; have HO_452001 := n1_; have HO_463001 := n2_; have HO_472001 := n3_; have HO486 := n4_; have HO489 := n5_; have BK451 := n6_; have BK462 := n7_; have BK471 := n8_; have HB := n9_; have BK491 := n10_; have GW491 := n11_; have GE491 := n12_; have NB451_491 := n13_; have NB491_451 := n14_; have NB462_491 := n15_; have NB491_462 := n16_; have NB471_491 := n17_; have NB491_471 := n18_; clear n0_ n1_ n2_ n3_ n4_ n5_ n6_ n7_ n8_ n9_ n10_ n11_ n12_ n13_ n14_ n15_ n16_ n17_ n18_; clear hb hbox hg; have hnb89 := NB491_451.out; have hnc89 := NB451_491.out; have hnb90 := NB491_462.out; have hnc90 := NB462_491.out; have hnb91 := NB491_471.out; have hnc91 := NB471_491.out; have hcz92_0 : w88.cell? ⟨gb491, 0, none⟩ = some (.int .i64 0) := (blk_cell BK491.out 0).trans rfl; have hcz92_1 : w88.cell? ⟨gb491, 1, none⟩ = some (.slice none 0 0) := (blk_cell BK491.out 1).trans rfl; have hfz92_0 := blk_frozen BK491.out 0; have hfz92_1 := blk_frozen BK491.out 1; obtain ⟨Ao93, co93, eo93⟩ := Kd.R_slice HO486.out; subst eo93) | ((with_reducible refine gate_callee (f := 38) rfl ?_); refine goesL_ (some 154) rfl rfl Try.func38 (by kernel_rfl) rfl #[.agg #[.int .i64 t483, .slice Ao93 t484.length co93]] rfl (by (try simp only [List.map_toArray, List.map_cons, List.map_nil]); first | done | rfl | (simp only [List.length_drop, List.length_take]; rfl)) ?_; (with_reducible refine (table_Wipe.calls t483 _ _ t484 t492 t493 t496 t499 _ ?side1 ?side2 A67.out).mono ?_); (case side1 => refine (Kd.R_reads' (e := 29) (base := w.heap.size) (ok := fun k_ => ((((some k_ ≠ (v488 : Value).ownBlock ∧ some k_ ≠ (.slice Ao83 t478.length co83 : Value).ownBlock) ∧ some k_ ≠ (.slice Ao14 t447.length co14 : Value).ownBlock) ∧ some k_ ≠ (.slice Ao19 t455.length co19 : Value).ownBlock) ∧ some k_ ≠ (.slice Ao25 t464.length co25 : Value).ownBlock)) (n := t484.length) (c := co93) ?_).2.2; exact (by (with_reducible repeat (first | apply Kd.R_alloc | apply Kd.R_drewN | apply Kd.R_drew)); exact (Kd.R_mono (Kd.R_far (p := ⟨gb491, 1, none⟩) (Kd.R_far (p := ⟨gb491, 0, none⟩) (Kd.R_types HO486.out BK491.out (by decide)) (fun _ hk => hk.2) (.int .i64 t483)) (fun _ hk => hk.2) (.slice Ao93 t484.length co93)) (fun _ h_ => h_.1)))); (case side2 => exact (Kd.R_reads' HO486.out).2.1); rintro e w94 ⟨v494, v497, rfl, ho0, ho1, hb⟩; refine ⟨_, rfl, ?_⟩; have n0_ := Aside0.mk (Kd.R_mono (Kd.R_told (Kd.R_told (Kd.R_old (by (with_reducible repeat (first | apply Kd.R_alloc | apply Kd.R_drewN | apply Kd.R_drew)); exact (Kd.R_mono (Kd.R_far (p := ⟨gb491, 1, none⟩) (Kd.R_far (p := ⟨gb491, 0, none⟩) (Kd.R_types HO_21.out BK491.out (by decide)) (fun _ hk => hk.2) (.int .i64 t483)) (fun _ hk => hk.2) (.slice Ao93 t484.length co93)) (fun _ h_ => h_.1))) hb) (Kd.R_base ho0)) (Kd.R_base ho1)) (fun _ h_ => h_.1)); have n1_ := Aside0.mk (Kd.R_mono (Kd.R_told (Kd.R_told (Kd.R_old (by (with_reducible repeat (first | apply Kd.R_alloc | apply Kd.R_drewN | apply Kd.R_drew)); exact (Kd.R_mono (Kd.R_far (p := ⟨gb491, 1, none⟩) (Kd.R_far (p := ⟨gb491, 0, none⟩) (Kd.R_types HO_452001.out BK491.out (by decide)) (fun _ hk => hk.2) (.int .i64 t483)) (fun _ hk => hk.2) (.slice Ao93 t484.length co93)) (fun _ h_ => h_.1))) hb) (Kd.R_base ho0)) (Kd.R_base ho1)) (fun _ h_ => h_.1)); have n2_ := Aside0.mk (Kd.R_mono (Kd.R_told (Kd.R_told (Kd.R_old (by (with_reducible repeat (first | apply Kd.R_alloc | apply Kd.R_drewN | apply Kd.R_drew)); exact (Kd.R_mono (Kd.R_far (p := ⟨gb491, 1, none⟩) (Kd.R_far (p := ⟨gb491, 0, none⟩) (Kd.R_types HO_463001.out BK491.out (by decide)) (fun _ hk => hk.2) (.int .i64 t483)) (fun _ hk => hk.2) (.slice Ao93 t484.length co93)) (fun _ h_ => h_.1))) hb) (Kd.R_base ho0)) (Kd.R_base ho1)) (fun _ h_ => h_.1)); have n3_ := Aside0.mk (Kd.R_mono (Kd.R_told (Kd.R_told (Kd.R_old (by (with_reducible repeat (first | apply Kd.R_alloc | apply Kd.R_drewN | apply Kd.R_drew)); exact (Kd.R_mono (Kd.R_far (p := ⟨gb491, 1, none⟩) (Kd.R_far (p := ⟨gb491, 0, none⟩) (Kd.R_types HO_472001.out BK491.out (by decide)) (fun _ hk => hk.2) (.int .i64 t483)) (fun _ hk => hk.2) (.slice Ao93 t484.length co93)) (fun _ h_ => h_.1))) hb) (Kd.R_base ho0)) (Kd.R_base ho1)) (fun _ h_ => h_.1)); have n4_ := Aside0.mk (Kd.R_mono (Kd.R_told (Kd.R_told (Kd.R_old (by (with_reducible repeat (first | apply Kd.R_alloc | apply Kd.R_drewN | apply Kd.R_drew)); exact (Kd.R_mono (Kd.R_far (p := ⟨gb491, 1, none⟩) (Kd.R_far (p := ⟨gb491, 0, none⟩) (Kd.R_types HO486.out BK491.out (by decide)) (fun _ hk => hk.2) (.int .i64 t483)) (fun _ hk => hk.2) (.slice Ao93 t484.length co93)) (fun _ h_ => h_.1))) hb) (Kd.R_base ho0)) (Kd.R_base ho1)) (fun _ h_ => h_.1)); have n5_ := Aside0.mk (Kd.R_mono (Kd.R_told (Kd.R_told (Kd.R_old (by (with_reducible repeat (first | apply Kd.R_alloc | apply Kd.R_drewN | apply Kd.R_drew)); exact (Kd.R_mono (Kd.R_far (p := ⟨gb491, 1, none⟩) (Kd.R_far (p := ⟨gb491, 0, none⟩) (Kd.R_types HO489.out BK491.out (by decide)) (fun _ hk => hk.2) (.int .i64 t483)) (fun _ hk => hk.2) (.slice Ao93 t484.length co93)) (fun _ h_ => h_.1))) hb) (Kd.R_base ho0)) (Kd.R_base ho1)) (fun _ h_ => h_.1)); have n6_ := Aside0.mk (Kd.R_lower (Kd.R_new' (Kd.R_new' (Kd.R_new' (Kd.R_new' (Kd.R_new' (Kd.R_new' ho0 (Kd.R_lt (by (with_reducible repeat (first | apply Kd.R_alloc | apply Kd.R_drewN | apply Kd.R_drew)); exact (Kd.R_mono (Kd.R_far (p := ⟨gb491, 1, none⟩) (Kd.R_far (p := ⟨gb491, 0, none⟩) (Kd.R_types HO_21.out BK491.out (by decide)) (fun _ hk => hk.2) (.int .i64 t483)) (fun _ hk => hk.2) (.slice Ao93 t484.length co93)) (fun _ h_ => h_.1))))) (Kd.R_lt (by (with_reducible repeat (first | apply Kd.R_alloc | apply Kd.R_drewN | apply Kd.R_drew)); exact (Kd.R_mono (Kd.R_far (p := ⟨gb491, 1, none⟩) (Kd.R_far (p := ⟨gb491, 0, none⟩) (Kd.R_types HO_452001.out BK491.out (by decide)) (fun _ hk => hk.2) (.int .i64 t483)) (fun _ hk => hk.2) (.slice Ao93 t484.length co93)) (fun _ h_ => h_.1))))) (Kd.R_lt (by (with_reducible repeat (first | apply Kd.R_alloc | apply Kd.R_drewN | apply Kd.R_drew)); exact (Kd.R_mono (Kd.R_far (p := ⟨gb491, 1, none⟩) (Kd.R_far (p := ⟨gb491, 0, none⟩) (Kd.R_types HO_463001.out BK491.out (by decide)) (fun _ hk => hk.2) (.int .i64 t483)) (fun _ hk => hk.2) (.slice Ao93 t484.length co93)) (fun _ h_ => h_.1))))) (Kd.R_lt (by (with_reducible repeat (first | apply Kd.R_alloc | apply Kd.R_drewN | apply Kd.R_drew)); exact (Kd.R_mono (Kd.R_far (p := ⟨gb491, 1, none⟩) (Kd.R_far (p := ⟨gb491, 0, none⟩) (Kd.R_types HO_472001.out BK491.out (by decide)) (fun _ hk => hk.2) (.int .i64 t483)) (fun _ hk => hk.2) (.slice Ao93 t484.length co93)) (fun _ h_ => h_.1))))) (Kd.R_lt (by (with_reducible repeat (first | apply Kd.R_alloc | apply Kd.R_drewN | apply Kd.R_drew)); exact (Kd.R_mono (Kd.R_far (p := ⟨gb491, 1, none⟩) (Kd.R_far (p := ⟨gb491, 0, none⟩) (Kd.R_types HO486.out BK491.out (by decide)) (fun _ hk => hk.2) (.int .i64 t483)) (fun _ hk => hk.2) (.slice Ao93 t484.length co93)) (fun _ h_ => h_.1))))) (Kd.R_lt (by (with_reducible repeat (first | apply Kd.R_alloc | apply Kd.R_drewN | apply Kd.R_drew)); exact (Kd.R_mono (Kd.R_far (p := ⟨gb491, 1, none⟩) (Kd.R_far (p := ⟨gb491, 0, none⟩) (Kd.R_types HO489.out BK491.out (by decide)) (fun _ hk => hk.2) (.int .i64 t483)) (fun _ hk => hk.2) (.slice Ao93 t484.length co93)) (fun _ h_ => h_.1))))) (below_size (by repeat (first | (with_reducible first | exact HB.out | apply below_alloc | apply pw_below_drewN | apply below_drew1 | refine below_set ?_ GE451.out | refine below_set ?_ GE462.out | refine below_set ?_ GE471.out | refine below_set ?_ GE491.out) | exact HB.out)))); have n7_ := Aside0.mk (Kd.R_lower (Kd.R_new' (Kd.R_new' (Kd.R_new' (Kd.R_new' (Kd.R_new' (Kd.R_new' ho1 (Kd.R_lt (by (with_reducible repeat (first | apply Kd.R_alloc | apply Kd.R_drewN | apply Kd.R_drew)); exact (Kd.R_mono (Kd.R_far (p := ⟨gb491, 1, none⟩) (Kd.R_far (p := ⟨gb491, 0, none⟩) (Kd.R_types HO_21.out BK491.out (by decide)) (fun _ hk => hk.2) (.int .i64 t483)) (fun _ hk => hk.2) (.slice Ao93 t484.length co93)) (fun _ h_ => h_.1))))) (Kd.R_lt (by (with_reducible repeat (first | apply Kd.R_alloc | apply Kd.R_drewN | apply Kd.R_drew)); exact (Kd.R_mono (Kd.R_far (p := ⟨gb491, 1, none⟩) (Kd.R_far (p := ⟨gb491, 0, none⟩) (Kd.R_types HO_452001.out BK491.out (by decide)) (fun _ hk => hk.2) (.int .i64 t483)) (fun _ hk => hk.2) (.slice Ao93 t484.length co93)) (fun _ h_ => h_.1))))) (Kd.R_lt (by (with_reducible repeat (first | apply Kd.R_alloc | apply Kd.R_drewN | apply Kd.R_drew)); exact (Kd.R_mono (Kd.R_far (p := ⟨gb491, 1, none⟩) (Kd.R_far (p := ⟨gb491, 0, none⟩) (Kd.R_types HO_463001.out BK491.out (by decide)) (fun _ hk => hk.2) (.int .i64 t483)) (fun _ hk => hk.2) (.slice Ao93 t484.length co93)) (fun _ h_ => h_.1))))) (Kd.R_lt (by (with_reducible repeat (first | apply Kd.R_alloc | apply Kd.R_drewN | apply Kd.R_drew)); exact (Kd.R_mono (Kd.R_far (p := ⟨gb491, 1, none⟩) (Kd.R_far (p := ⟨gb491, 0, none⟩) (Kd.R_types HO_472001.out BK491.out (by decide)) (fun _ hk => hk.2) (.int .i64 t483)) (fun _ hk => hk.2) (.slice Ao93 t484.length co93)) (fun _ h_ => h_.1))))) (Kd.R_lt (by (with_reducible repeat (first | apply Kd.R_alloc | apply Kd.R_drewN | apply Kd.R_drew)); exact (Kd.R_mono (Kd.R_far (p := ⟨gb491, 1, none⟩) (Kd.R_far (p := ⟨gb491, 0, none⟩) (Kd.R_types HO486.out BK491.out (by decide)) (fun _ hk => hk.2) (.int .i64 t483)) (fun _ hk => hk.2) (.slice Ao93 t484.length co93)) (fun _ h_ => h_.1))))) (Kd.R_lt (by (with_reducible repeat (first | apply Kd.R_alloc | apply Kd.R_drewN | apply Kd.R_drew)); exact (Kd.R_mono (Kd.R_far (p := ⟨gb491, 1, none⟩) (Kd.R_far (p := ⟨gb491, 0, none⟩) (Kd.R_types HO489.out BK491.out (by decide)) (fun _ hk => hk.2) (.int .i64 t483)) (fun _ hk => hk.2) (.slice Ao93 t484.length co93)) (fun _ h_ => h_.1))))) (below_size (by repeat (first | (with_reducible first | exact HB.out | apply below_alloc | apply pw_below_drewN | apply below_drew1 | refine below_set ?_ GE451.out | refine below_set ?_ GE462.out | refine below_set ?_ GE471.out | refine below_set ?_ GE491.out) | exact HB.out)))); have n8_ := Aside0.mk (blk_below (g := gb451) (o := .cells #[.int .i64 t446, .slice Ao14 t447.length co14] 25 (0, 0)) (by (with_reducible repeat (first | refine blk_drewN ?_ _ | refine blk_drew ?_ | refine blk_alloc ?_ _)); refine blk_far ?_ NB451_491.out _; (with_reducible repeat (first | refine blk_drewN ?_ _ | refine blk_drew ?_ | refine blk_alloc ?_ _)); refine blk_far ?_ NB451_491.out _; (with_reducible repeat (first | refine blk_drewN ?_ _ | refine blk_drew ?_ | refine blk_alloc ?_ _)); exact BK451.out) hb); have n9_ := Aside0.mk (blk_below (g := gb462) (o := .cells #[.int .i64 t454, .slice Ao19 t455.length co19] 25 (0, 0)) (by (with_reducible repeat (first | refine blk_drewN ?_ _ | refine blk_drew ?_ | refine blk_alloc ?_ _)); refine blk_far ?_ NB462_491.out _; (with_reducible repeat (first | refine blk_drewN ?_ _ | refine blk_drew ?_ | refine blk_alloc ?_ _)); refine blk_far ?_ NB462_491.out _; (with_reducible repeat (first | refine blk_drewN ?_ _ | refine blk_drew ?_ | refine blk_alloc ?_ _)); exact BK462.out) hb); have n10_ := Aside0.mk (blk_below (g := gb471) (o := .cells #[.int .i64 t463, .slice Ao25 t464.length co25] 25 (0, 0)) (by (with_reducible repeat (first | refine blk_drewN ?_ _ | refine blk_drew ?_ | refine blk_alloc ?_ _)); refine blk_far ?_ NB471_491.out _; (with_reducible repeat (first | refine blk_drewN ?_ _ | refine blk_drew ?_ | refine blk_alloc ?_ _)); refine blk_far ?_ NB471_491.out _; (with_reducible repeat (first | refine blk_drewN ?_ _ | refine blk_drew ?_ | refine blk_alloc ?_ _)); exact BK471.out) hb); have n11_ := Aside0.mk (blk_below (g := gb491) (o := .cells #[.int .i64 t483, .slice Ao93 t484.length co93] 25 (0, 0)) (by (with_reducible repeat (first | refine blk_drewN ?_ _ | refine blk_drew ?_ | refine blk_alloc ?_ _)); refine blk_put (cs := #[.int .i64 t483, .slice none 0 0]) ?_ 1 _ rfl; (with_reducible repeat (first | refine blk_drewN ?_ _ | refine blk_drew ?_ | refine blk_alloc ?_ _)); refine blk_put (cs := #[.int .i64 0, .slice none 0 0]) ?_ 0 _ rfl; (with_reducible repeat (first | refine blk_drewN ?_ _ | refine blk_drew ?_ | refine blk_alloc ?_ _)); exact BK491.out) hb); have n12_ := Aside0.mk (below_step (by repeat (first | (with_reducible first | exact HB.out | apply below_alloc | apply pw_below_drewN | apply below_drew1 | refine below_set ?_ GE451.out | refine below_set ?_ GE462.out | refine below_set ?_ GE471.out | refine below_set ?_ GE491.out) | exact HB.out)) hb); clear HO_21; clear HO_452001; clear HO_463001; clear HO_472001; clear HO486; clear HO489; clear BK451; clear BK462; clear BK471; clear BK491; clear HB; have HO_21 := n0_; have HO_452001 := n1_; have HO_463001 := n2_; have HO_472001 := n3_; have HO486 := n4_; have HO489 := n5_; have HO495 := n6_; have HO498 := n7_; have BK451 := n8_; have BK462 := n9_; have BK471 := n10_; have BK491 := n11_; have HB := n12_; clear n0_ n1_ n2_ n3_ n4_ n5_ n6_ n7_ n8_ n9_ n10_ n11_ n12_; (try clear hb); (try clear hb2); (try clear hk); (try clear hi); (try clear ho0); (try clear ho1)) | ((with_reducible refine gate_dst (N := 25) rfl ?_); (try (refine gate_guard (by rfl) ?_; dsimp only)); refine box_event ?hg (N := 25) ?hd (cs := #[.int .i64 0, .slice none 0 0]) (t := 25) ?hr ?_; (case hd => rfl); (case hg => rfl); (case hr => first | (go_simp; done) | (go_simp; rfl)); intro gb500 hg w95 hbox hb; have n0_ := Aside0.mk (Kd.R_below (by (with_reducible repeat (first | apply Kd.R_alloc | apply Kd.R_drewN | apply Kd.R_drew)); exact HO_21.out) hb); have n1_ := Aside0.mk (Kd.R_below (by (with_reducible repeat (first | apply Kd.R_alloc | apply Kd.R_drewN | apply Kd.R_drew)); exact HO_452001.out) hb); have n2_ := Aside0.mk (Kd.R_below (by (with_reducible repeat (first | apply Kd.R_alloc | apply Kd.R_drewN | apply Kd.R_drew)); exact HO_463001.out) hb); have n3_ := Aside0.mk (Kd.R_below (by (with_reducible repeat (first | apply Kd.R_alloc | apply Kd.R_drewN | apply Kd.R_drew)); exact HO_472001.out) hb); have n4_ := Aside0.mk (Kd.R_below (by (with_reducible repeat (first | apply Kd.R_alloc | apply Kd.R_drewN | apply Kd.R_drew)); exact HO486.out) hb); have n5_ := Aside0.mk (Kd.R_below (by (with_reducible repeat (first | apply Kd.R_alloc | apply Kd.R_drewN | apply Kd.R_drew)); exact HO489.out) hb); have n6_ := Aside0.mk (Kd.R_below (by (with_reducible repeat (first | apply Kd.R_alloc | apply Kd.R_drewN | apply Kd.R_drew)); exact HO495.out) hb); have n7_ := Aside0.mk (Kd.R_below (by (with_reducible repeat (first | apply Kd.R_alloc | apply Kd.R_drewN | apply Kd.R_drew)); exact HO498.out) hb); have n8_ := Aside0.mk (blk_below (g := gb451) (o := .cells #[.int .i64 t446, .slice Ao14 t447.length co14] 25 (0, 0)) (by (with_reducible repeat (first | refine blk_drewN ?_ _ | refine blk_drew ?_ | refine blk_alloc ?_ _)); exact BK451.out) hb); have n9_ := Aside0.mk (blk_below (g := gb462) (o := .cells #[.int .i64 t454, .slice Ao19 t455.length co19] 25 (0, 0)) (by (with_reducible repeat (first | refine blk_drewN ?_ _ | refine blk_drew ?_ | refine blk_alloc ?_ _)); exact BK462.out) hb); have n10_ := Aside0.mk (blk_below (g := gb471) (o := .cells #[.int .i64 t463, .slice Ao25 t464.length co25] 25 (0, 0)) (by (with_reducible repeat (first | refine blk_drewN ?_ _ | refine blk_drew ?_ | refine blk_alloc ?_ _)); exact BK471.out) hb); have n11_ := Aside0.mk (blk_below (g := gb491) (o := .cells #[.int .i64 t483, .slice Ao93 t484.length co93] 25 (0, 0)) (by (with_reducible repeat (first | refine blk_drewN ?_ _ | refine blk_drew ?_ | refine blk_alloc ?_ _)); exact BK491.out) hb); have n12_ := Aside0.mk (below_step (by repeat (first | (with_reducible first | exact HB.out | apply below_alloc | apply pw_below_drewN | apply below_drew1 | refine below_set ?_ GE451.out | refine below_set ?_ GE462.out | refine below_set ?_ GE471.out | refine below_set ?_ GE491.out) | exact HB.out)) hb); have n13_ := Aside0.mk (hbox); have n14_ := Aside0.mk ((by rw [hg]; exact (below_size (by repeat (first | (with_reducible first | exact HB.out | apply below_alloc | apply pw_below_drewN | apply below_drew1 | refine below_set ?_ GE451.out | refine below_set ?_ GE462.out | refine below_set ?_ GE471.out | refine below_set ?_ GE491.out) | exact HB.out))) : w.heap.size ≤ gb500)); have n15_ := Aside0.mk ((by rw [hg]; exact (below_size (by repeat (first | (with_reducible first | exact HB.out | apply below_alloc | apply pw_below_drewN | apply below_drew1 | refine below_set ?_ GE451.out | refine below_set ?_ GE462.out | refine below_set ?_ GE471.out | refine below_set ?_ GE491.out) | exact HB.out))) : w.heap.size ≤ gb500)); have n16_ := Aside0.mk ((by rw [hg]; exact Nat.ne_of_lt (blk_lt (g := gb451) (o := .cells #[.int .i64 t446, .slice Ao14 t447.length co14] 25 (0, 0)) (by (with_reducible repeat (first | refine blk_drewN ?_ _ | refine blk_drew ?_ | refine blk_alloc ?_ _)); exact BK451.out)) : gb451 ≠ gb500)); have n17_ := Aside0.mk ((by rw [hg]; exact Nat.ne_of_gt (blk_lt (g := gb451) (o := .cells #[.int .i64 t446, .slice Ao14 t447.length co14] 25 (0, 0)) (by (with_reducible repeat (first | refine blk_drewN ?_ _ | refine blk_drew ?_ | refine blk_alloc ?_ _)); exact BK451.out)) : gb500 ≠ gb451)); have n18_ := Aside0.mk ((by rw [hg]; exact Nat.ne_of_lt (blk_lt (g := gb462) (o := .cells #[.int .i64 t454, .slice Ao19 t455.length co19] 25 (0, 0)) (by (with_reducible repeat (first | refine blk_drewN ?_ _ | refine blk_drew ?_ | refine blk_alloc ?_ _)); exact BK462.out)) : gb462 ≠ gb500)); have n19_ := Aside0.mk ((by rw [hg]; exact Nat.ne_of_gt (blk_lt (g := gb462) (o := .cells #[.int .i64 t454, .slice Ao19 t455.length co19] 25 (0, 0)) (by (with_reducible repeat (first | refine blk_drewN ?_ _ | refine blk_drew ?_ | refine blk_alloc ?_ _)); exact BK462.out)) : gb500 ≠ gb462)); have n20_ := Aside0.mk ((by rw [hg]; exact Nat.ne_of_lt (blk_lt (g := gb471) (o := .cells #[.int .i64 t463, .slice Ao25 t464.length co25] 25 (0, 0)) (by (with_reducible repeat (first | refine blk_drewN ?_ _ | refine blk_drew ?_ | refine blk_alloc ?_ _)); exact BK471.out)) : gb471 ≠ gb500)); have n21_ := Aside0.mk ((by rw [hg]; exact Nat.ne_of_gt (blk_lt (g := gb471) (o := .cells #[.int .i64 t463, .slice Ao25 t464.length co25] 25 (0, 0)) (by (with_reducible repeat (first | refine blk_drewN ?_ _ | refine blk_drew ?_ | refine blk_alloc ?_ _)); exact BK471.out)) : gb500 ≠ gb471)); have n22_ := Aside0.mk ((by rw [hg]; exact Nat.ne_of_lt (blk_lt (g := gb491) (o := .cells #[.int .i64 t483, .slice Ao93 t484.length co93] 25 (0, 0)) (by (with_reducible repeat (first | refine blk_drewN ?_ _ | refine blk_drew ?_ | refine blk_alloc ?_ _)); exact BK491.out)) : gb491 ≠ gb500)); have n23_ := Aside0.mk ((by rw [hg]; exact Nat.ne_of_gt (blk_lt (g := gb491) (o := .cells #[.int .i64 t483, .slice Ao93 t484.length co93] 25 (0, 0)) (by (with_reducible repeat (first | refine blk_drewN ?_ _ | refine blk_drew ?_ | refine blk_alloc ?_ _)); exact BK491.out)) : gb500 ≠ gb491)); clear HO_21; clear HO_452001; clear HO_463001; clear HO_472001; clear HO486; clear HO489; clear HO495; clear HO498; clear BK451; clear BK462; clear BK471; clear BK491; clear HB; have HO_21 := n0_; have HO_452001 := n1_; have HO_463001 := n2_; have HO_472001 := n3_; have HO486 := n4_; have HO489 := n5_; have HO495 := n6_; have HO498 := n7_; have BK451 := n8_; have BK462 := n9_; have BK471 := n10_; have BK491 := n11_; have HB := n12_; have BK500 := n13_; have GW500 := n14_; have GE500 := n15_; have NB451_500 := n16_; have NB500_451 := n17_; have NB462_500 := n18_; have NB500_462 := n19_; have NB471_500 := n20_; have NB500_471 := n21_; have NB491_500 := n22_; have NB500_491 := n23_; clear n0_ n1_ n2_ n3_ n4_ n5_ n6_ n7_ n8_ n9_ n10_ n11_ n12_ n13_ n14_ n15_ n16_ n17_ n18_ n19_ n20_ n21_ n22_ n23_; clear hb hbox hg; have hnb96 := NB500_451.out; have hnc96 := NB451_500.out; have hnb97 := NB500_462.out; have hnc97 := NB462_500.out; have hnb98 := NB500_471.out; have hnc98 := NB471_500.out; have hnb99 := NB500_491.out; have hnc99 := NB491_500.out; have hcz100_0 : w95.cell? ⟨gb500, 0, none⟩ = some (.int .i64 0) := (blk_cell BK500.out 0).trans rfl; have hcz100_1 : w95.cell? ⟨gb500, 1, none⟩ = some (.slice none 0 0) := (blk_cell BK500.out 1).trans rfl; have hfz100_0 := blk_frozen BK500.out 0; have hfz100_1 := blk_frozen BK500.out 1; obtain ⟨Ao101, co101, eo101⟩ := Kd.R_slice HO495.out; subst eo101; have hcz102_0 : w95.cell? ⟨gb451, 0, none⟩ = some (.int .i64 t446) := (blk_cell BK451.out 0).trans rfl; have hcz102_1 : w95.cell? ⟨gb451, 1, none⟩ = some (.slice Ao14 t447.length co14) := (blk_cell BK451.out 1).trans rfl; have hfz102_0 := blk_frozen BK451.out 0; have hfz102_1 := blk_frozen BK451.out 1) | ((with_reducible refine gate_callee (f := 42) rfl ?_); refine goesL_ (some 160) rfl rfl Try.func42 (by kernel_rfl) rfl #[.agg #[.int .i64 t446, .slice Ao14 t447.length co14]] rfl (by (try simp only [List.map_toArray, List.map_cons, List.map_nil]); first | done | rfl | (simp only [List.length_drop, List.length_take]; rfl)) ?_; (with_reducible refine (table_Halls.calls k3 t446 _ _ t447 t501 t502 t503 _ ?side1 ?side2 A68.out).mono ?_); (case side1 => refine (Kd.R_reads' (e := 29) (base := w.heap.size) (ok := fun k_ => (((((some k_ ≠ (.slice Ao83 t478.length co83 : Value).ownBlock ∧ (some k_ ≠ (.slice Ao19 t455.length co19 : Value).ownBlock ∧ some k_ ≠ (.slice Ao25 t464.length co25 : Value).ownBlock)) ∧ some k_ ≠ (.slice Ao93 t484.length co93 : Value).ownBlock) ∧ some k_ ≠ (v488 : Value).ownBlock) ∧ some k_ ≠ (.slice Ao101 t493.length co101 : Value).ownBlock) ∧ some k_ ≠ (v497 : Value).ownBlock)) (n := t447.length) (c := co14) ?_).2.2; exact (by (with_reducible repeat (first | apply Kd.R_alloc | apply Kd.R_drewN | apply Kd.R_drew)); exact (Kd.R_mono (Kd.R_far (p := ⟨gb500, 1, none⟩) (Kd.R_far (p := ⟨gb500, 0, none⟩) (Kd.R_types HO_452001.out BK500.out (by decide)) (fun _ hk => hk.2) (.int .i64 t492)) (fun _ hk => hk.2) (.slice Ao101 t493.length co101)) (fun _ h_ => h_.1)))); (case side2 => exact (Kd.R_reads' HO_452001.out).2.1); rintro e w103 ⟨rfl, hb⟩; refine ⟨_, rfl, ?_⟩; have n0_ := Aside0.mk (Kd.R_below (by (with_reducible repeat (first | apply Kd.R_alloc | apply Kd.R_drewN | apply Kd.R_drew)); exact (Kd.R_mono (Kd.R_far (p := ⟨gb500, 1, none⟩) (Kd.R_far (p := ⟨gb500, 0, none⟩) (Kd.R_types HO_21.out BK500.out (by decide)) (fun _ hk => hk.2) (.int .i64 t492)) (fun _ hk => hk.2) (.slice Ao101 t493.length co101)) (fun _ h_ => h_.1))) hb); have n1_ := Aside0.mk (Kd.R_below (by (with_reducible repeat (first | apply Kd.R_alloc | apply Kd.R_drewN | apply Kd.R_drew)); exact (Kd.R_mono (Kd.R_far (p := ⟨gb500, 1, none⟩) (Kd.R_far (p := ⟨gb500, 0, none⟩) (Kd.R_types HO_452001.out BK500.out (by decide)) (fun _ hk => hk.2) (.int .i64 t492)) (fun _ hk => hk.2) (.slice Ao101 t493.length co101)) (fun _ h_ => h_.1))) hb); have n2_ := Aside0.mk (Kd.R_below (by (with_reducible repeat (first | apply Kd.R_alloc | apply Kd.R_drewN | apply Kd.R_drew)); exact (Kd.R_mono (Kd.R_far (p := ⟨gb500, 1, none⟩) (Kd.R_far (p := ⟨gb500, 0, none⟩) (Kd.R_types HO_463001.out BK500.out (by decide)) (fun _ hk => hk.2) (.int .i64 t492)) (fun _ hk => hk.2) (.slice Ao101 t493.length co101)) (fun _ h_ => h_.1))) hb); have n3_ := Aside0.mk (Kd.R_below (by (with_reducible repeat (first | apply Kd.R_alloc | apply Kd.R_drewN | apply Kd.R_drew)); exact (Kd.R_mono (Kd.R_far (p := ⟨gb500, 1, none⟩) (Kd.R_far (p := ⟨gb500, 0, none⟩) (Kd.R_types HO_472001.out BK500.out (by decide)) (fun _ hk => hk.2) (.int .i64 t492)) (fun _ hk => hk.2) (.slice Ao101 t493.length co101)) (fun _ h_ => h_.1))) hb); have n4_ := Aside0.mk (Kd.R_below (by (with_reducible repeat (first | apply Kd.R_alloc | apply Kd.R_drewN | apply Kd.R_drew)); exact (Kd.R_mono (Kd.R_far (p := ⟨gb500, 1, none⟩) (Kd.R_far (p := ⟨gb500, 0, none⟩) (Kd.R_types HO486.out BK500.out (by decide)) (fun _ hk => hk.2) (.int .i64 t492)) (fun _ hk => hk.2) (.slice Ao101 t493.length co101)) (fun _ h_ => h_.1))) hb); have n5_ := Aside0.mk (Kd.R_below (by (with_reducible repeat (first | apply Kd.R_alloc | apply Kd.R_drewN | apply Kd.R_drew)); exact (Kd.R_mono (Kd.R_far (p := ⟨gb500, 1, none⟩) (Kd.R_far (p := ⟨gb500, 0, none⟩) (Kd.R_types HO489.out BK500.out (by decide)) (fun _ hk => hk.2) (.int .i64 t492)) (fun _ hk => hk.2) (.slice Ao101 t493.length co101)) (fun _ h_ => h_.1))) hb); have n6_ := Aside0.mk (Kd.R_below (by (with_reducible repeat (first | apply Kd.R_alloc | apply Kd.R_drewN | apply Kd.R_drew)); exact (Kd.R_mono (Kd.R_far (p := ⟨gb500, 1, none⟩) (Kd.R_far (p := ⟨gb500, 0, none⟩) (Kd.R_types HO495.out BK500.out (by decide)) (fun _ hk => hk.2) (.int .i64 t492)) (fun _ hk => hk.2) (.slice Ao101 t493.length co101)) (fun _ h_ => h_.1))) hb); have n7_ := Aside0.mk (Kd.R_below (by (with_reducible repeat (first | apply Kd.R_alloc | apply Kd.R_drewN | apply Kd.R_drew)); exact (Kd.R_mono (Kd.R_far (p := ⟨gb500, 1, none⟩) (Kd.R_far (p := ⟨gb500, 0, none⟩) (Kd.R_types HO498.out BK500.out (by decide)) (fun _ hk => hk.2) (.int .i64 t492)) (fun _ hk => hk.2) (.slice Ao101 t493.length co101)) (fun _ h_ => h_.1))) hb); have n8_ := Aside0.mk (blk_below (g := gb451) (o := .cells #[.int .i64 t446, .slice Ao14 t447.length co14] 25 (0, 0)) (by (with_reducible repeat (first | refine blk_drewN ?_ _ | refine blk_drew ?_ | refine blk_alloc ?_ _)); refine blk_far ?_ NB451_500.out _; (with_reducible repeat (first | refine blk_drewN ?_ _ | refine blk_drew ?_ | refine blk_alloc ?_ _)); refine blk_far ?_ NB451_500.out _; (with_reducible repeat (first | refine blk_drewN ?_ _ | refine blk_drew ?_ | refine blk_alloc ?_ _)); exact BK451.out) hb); have n9_ := Aside0.mk (blk_below (g := gb462) (o := .cells #[.int .i64 t454, .slice Ao19 t455.length co19] 25 (0, 0)) (by (with_reducible repeat (first | refine blk_drewN ?_ _ | refine blk_drew ?_ | refine blk_alloc ?_ _)); refine blk_far ?_ NB462_500.out _; (with_reducible repeat (first | refine blk_drewN ?_ _ | refine blk_drew ?_ | refine blk_alloc ?_ _)); refine blk_far ?_ NB462_500.out _; (with_reducible repeat (first | refine blk_drewN ?_ _ | refine blk_drew ?_ | refine blk_alloc ?_ _)); exact BK462.out) hb); have n10_ := Aside0.mk (blk_below (g := gb471) (o := .cells #[.int .i64 t463, .slice Ao25 t464.length co25] 25 (0, 0)) (by (with_reducible repeat (first | refine blk_drewN ?_ _ | refine blk_drew ?_ | refine blk_alloc ?_ _)); refine blk_far ?_ NB471_500.out _; (with_reducible repeat (first | refine blk_drewN ?_ _ | refine blk_drew ?_ | refine blk_alloc ?_ _)); refine blk_far ?_ NB471_500.out _; (with_reducible repeat (first | refine blk_drewN ?_ _ | refine blk_drew ?_ | refine blk_alloc ?_ _)); exact BK471.out) hb); have n11_ := Aside0.mk (blk_below (g := gb491) (o := .cells #[.int .i64 t483, .slice Ao93 t484.length co93] 25 (0, 0)) (by (with_reducible repeat (first | refine blk_drewN ?_ _ | refine blk_drew ?_ | refine blk_alloc ?_ _)); refine blk_far ?_ NB491_500.out _; (with_reducible repeat (first | refine blk_drewN ?_ _ | refine blk_drew ?_ | refine blk_alloc ?_ _)); refine blk_far ?_ NB491_500.out _; (with_reducible repeat (first | refine blk_drewN ?_ _ | refine blk_drew ?_ | refine blk_alloc ?_ _)); exact BK491.out) hb); have n12_ := Aside0.mk (blk_below (g := gb500) (o := .cells #[.int .i64 t492, .slice Ao101 t493.length co101] 25 (0, 0)) (by (with_reducible repeat (first | refine blk_drewN ?_ _ | refine blk_drew ?_ | refine blk_alloc ?_ _)); refine blk_put (cs := #[.int .i64 t492, .slice none 0 0]) ?_ 1 _ rfl; (with_reducible repeat (first | refine blk_drewN ?_ _ | refine blk_drew ?_ | refine blk_alloc ?_ _)); refine blk_put (cs := #[.int .i64 0, .slice none 0 0]) ?_ 0 _ rfl; (with_reducible repeat (first | refine blk_drewN ?_ _ | refine blk_drew ?_ | refine blk_alloc ?_ _)); exact BK500.out) hb); have n13_ := Aside0.mk (below_step (by repeat (first | (with_reducible first | exact HB.out | apply below_alloc | apply pw_below_drewN | apply below_drew1 | refine below_set ?_ GE451.out | refine below_set ?_ GE462.out | refine below_set ?_ GE471.out | refine below_set ?_ GE491.out | refine below_set ?_ GE500.out) | exact HB.out)) hb); clear HO_21; clear HO_452001; clear HO_463001; clear HO_472001; clear HO486; clear HO489; clear HO495; clear HO498; clear BK451; clear BK462; clear BK471; clear BK491; clear BK500; clear HB; have HO_21 := n0_; have HO_452001 := n1_; have HO_463001 := n2_; have HO_472001 := n3_; have HO486 := n4_; have HO489 := n5_; have HO495 := n6_; have HO498 := n7_; have BK451 := n8_; have BK462 := n9_; have BK471 := n10_; have BK491 := n11_; have BK500 := n12_; have HB := n13_; clear n0_ n1_ n2_ n3_ n4_ n5_ n6_ n7_ n8_ n9_ n10_ n11_ n12_ n13_; (try clear hb); (try clear hb2); (try clear hk); (try clear hi); have hcz104_0 : w103.cell? ⟨gb491, 0, none⟩ = some (.int .i64 t483) := (blk_cell BK491.out 0).trans rfl; have hcz104_1 : w103.cell? ⟨gb491, 1, none⟩ = some (.slice Ao93 t484.length co93) := (blk_cell BK491.out 1).trans rfl; have hfz104_0 := blk_frozen BK491.out 0; have hfz104_1 := blk_frozen BK491.out 1) | ((with_reducible refine gate_callee (f := 42) rfl ?_); refine goesL_ (some 166) rfl rfl Try.func42 (by kernel_rfl) rfl #[.agg #[.int .i64 t483, .slice Ao93 t484.length co93]] rfl (by (try simp only [List.map_toArray, List.map_cons, List.map_nil]); first | done | rfl | (simp only [List.length_drop, List.length_take]; rfl)) ?_; (with_reducible refine (table_Halls.calls k3 t483 _ _ t484 t504 t505 t506 _ ?side1 ?side2 A69.out).mono ?_); (case side1 => repeat (first | exact (Kd.R_reads' HO486.out).2.2 | (with_reducible refine Kd.C_alloc ?_ _) | (with_reducible refine Kd.C_drewN ?_ _) | (with_reducible refine Kd.C_drew ?_))); (case side2 => exact (Kd.R_reads' HO486.out).2.1); rintro e w105 ⟨rfl, hb⟩; refine ⟨_, rfl, ?_⟩; have n0_ := Aside0.mk (Kd.R_below (by (with_reducible repeat (first | apply Kd.R_alloc | apply Kd.R_drewN | apply Kd.R_drew)); exact HO_21.out) hb); have n1_ := Aside0.mk (Kd.R_below (by (with_reducible repeat (first | apply Kd.R_alloc | apply Kd.R_drewN | apply Kd.R_drew)); exact HO_452001.out) hb); have n2_ := Aside0.mk (Kd.R_below (by (with_reducible repeat (first | apply Kd.R_alloc | apply Kd.R_drewN | apply Kd.R_drew)); exact HO_463001.out) hb); have n3_ := Aside0.mk (Kd.R_below (by (with_reducible repeat (first | apply Kd.R_alloc | apply Kd.R_drewN | apply Kd.R_drew)); exact HO_472001.out) hb); have n4_ := Aside0.mk (Kd.R_below (by (with_reducible repeat (first | apply Kd.R_alloc | apply Kd.R_drewN | apply Kd.R_drew)); exact HO486.out) hb); have n5_ := Aside0.mk (Kd.R_below (by (with_reducible repeat (first | apply Kd.R_alloc | apply Kd.R_drewN | apply Kd.R_drew)); exact HO489.out) hb); have n6_ := Aside0.mk (Kd.R_below (by (with_reducible repeat (first | apply Kd.R_alloc | apply Kd.R_drewN | apply Kd.R_drew)); exact HO495.out) hb); have n7_ := Aside0.mk (Kd.R_below (by (with_reducible repeat (first | apply Kd.R_alloc | apply Kd.R_drewN | apply Kd.R_drew)); exact HO498.out) hb); have n8_ := Aside0.mk (blk_below (g := gb451) (o := .cells #[.int .i64 t446, .slice Ao14 t447.length co14] 25 (0, 0)) (by (with_reducible repeat (first | refine blk_drewN ?_ _ | refine blk_drew ?_ | refine blk_alloc ?_ _)); exact BK451.out) hb); have n9_ := Aside0.mk (blk_below (g := gb462) (o := .cells #[.int .i64 t454, .slice Ao19 t455.length co19] 25 (0, 0)) (by (with_reducible repeat (first | refine blk_drewN ?_ _ | refine blk_drew ?_ | refine blk_alloc ?_ _)); exact BK462.out) hb); have n10_ := Aside0.mk (blk_below (g := gb471) (o := .cells #[.int .i64 t463, .slice Ao25 t464.length co25] 25 (0, 0)) (by (with_reducible repeat (first | refine blk_drewN ?_ _ | refine blk_drew ?_ | refine blk_alloc ?_ _)); exact BK471.out) hb); have n11_ := Aside0.mk (blk_below (g := gb491) (o := .cells #[.int .i64 t483, .slice Ao93 t484.length co93] 25 (0, 0)) (by (with_reducible repeat (first | refine blk_drewN ?_ _ | refine blk_drew ?_ | refine blk_alloc ?_ _)); exact BK491.out) hb); have n12_ := Aside0.mk (blk_below (g := gb500) (o := .cells #[.int .i64 t492, .slice Ao101 t493.length co101] 25 (0, 0)) (by (with_reducible repeat (first | refine blk_drewN ?_ _ | refine blk_drew ?_ | refine blk_alloc ?_ _)); exact BK500.out) hb); have n13_ := Aside0.mk (below_step (by repeat (first | (with_reducible first | exact HB.out | apply below_alloc | apply pw_below_drewN | apply below_drew1 | refine below_set ?_ GE451.out | refine below_set ?_ GE462.out | refine below_set ?_ GE471.out | refine below_set ?_ GE491.out | refine below_set ?_ GE500.out) | exact HB.out)) hb); clear HO_21; clear HO_452001; clear HO_463001; clear HO_472001; clear HO486; clear HO489; clear HO495; clear HO498; clear BK451; clear BK462; clear BK471; clear BK491; clear BK500; clear HB; have HO_21 := n0_; have HO_452001 := n1_; have HO_463001 := n2_; have HO_472001 := n3_; have HO486 := n4_; have HO489 := n5_; have HO495 := n6_; have HO498 := n7_; have BK451 := n8_; have BK462 := n9_; have BK471 := n10_; have BK491 := n11_; have BK500 := n12_; have HB := n13_; clear n0_ n1_ n2_ n3_ n4_ n5_ n6_ n7_ n8_ n9_ n10_ n11_ n12_ n13_; (try clear hb); (try clear hb2); (try clear hk); (try clear hi); obtain ⟨Ao106, co106, eo106⟩ := Kd.R_slice HO498.out; subst eo106; have hcz107_0 : w105.cell? ⟨gb491, 0, none⟩ = some (.int .i64 t483) := (blk_cell BK491.out 0).trans rfl; have hcz107_1 : w105.cell? ⟨gb491, 1, none⟩ = some (.slice Ao93 t484.length co93) := (blk_cell BK491.out 1).trans rfl; have hfz107_0 := blk_frozen BK491.out 0; have hfz107_1 := blk_frozen BK491.out 1; have hcz108_0 : w105.cell? ⟨gb500, 0, none⟩ = some (.int .i64 t492) := (blk_cell BK500.out 0).trans rfl; have hcz108_1 : w105.cell? ⟨gb500, 1, none⟩ = some (.slice Ao101 t493.length co101) := (blk_cell BK500.out 1).trans rfl; have hfz108_0 := blk_frozen BK500.out 0; have hfz108_1 := blk_frozen BK500.out 1) | ((with_reducible refine gate_callee (f := 37) rfl ?_); (with_reducible refine gate_dst (N := 192) rfl ?_); refine gate_guard (by rfl) ?_; dsimp only; refine goesL_ (some 192) rfl rfl Try.func37 (by kernel_rfl) rfl #[.agg #[.int .i64 t483, .slice Ao93 t484.length co93], .agg #[.int .i64 t492, .slice Ao101 t493.length co101]] rfl (by (try simp only [List.map_toArray, List.map_cons, List.map_nil]); first | done | rfl | (simp only [List.length_drop, List.length_take]; rfl)) ?_; (with_reducible refine (K_SameTable.calls k3 t483 _ _ t484 t492 _ _ t493 true _ ?side1 ?side2 ?side3 ?side4 A75.out).mono ?_); (case side1 => repeat (first | exact (Kd.R_reads' HO486.out).2.2 | (with_reducible refine Kd.C_alloc ?_ _) | (with_reducible refine Kd.C_drewN ?_ _) | (with_reducible refine Kd.C_drew ?_))); (case side2 => exact (Kd.R_reads' HO486.out).2.1); (case side3 => repeat (first | exact (Kd.R_reads' HO495.out).2.2 | (with_reducible refine Kd.C_alloc ?_ _) | (with_reducible refine Kd.C_drewN ?_ _) | (with_reducible refine Kd.C_drew ?_))); (case side4 => exact (Kd.R_reads' HO495.out).2.1); rintro e w109 ⟨rfl, hb⟩; refine ⟨_, rfl, ?_⟩; have n0_ := Aside0.mk (Kd.R_below (by (with_reducible repeat (first | apply Kd.R_alloc | apply Kd.R_drewN | apply Kd.R_drew)); exact HO_21.out) hb); have n1_ := Aside0.mk (Kd.R_below (by (with_reducible repeat (first | apply Kd.R_alloc | apply Kd.R_drewN | apply Kd.R_drew)); exact HO_452001.out) hb); have n2_ := Aside0.mk (Kd.R_below (by (with_reducible repeat (first | apply Kd.R_alloc | apply Kd.R_drewN | apply Kd.R_drew)); exact HO_463001.out) hb); have n3_ := Aside0.mk (Kd.R_below (by (with_reducible repeat (first | apply Kd.R_alloc | apply Kd.R_drewN | apply Kd.R_drew)); exact HO_472001.out) hb); have n4_ := Aside0.mk (Kd.R_below (by (with_reducible repeat (first | apply Kd.R_alloc | apply Kd.R_drewN | apply Kd.R_drew)); exact HO486.out) hb); have n5_ := Aside0.mk (Kd.R_below (by (with_reducible repeat (first | apply Kd.R_alloc | apply Kd.R_drewN | apply Kd.R_drew)); exact HO489.out) hb); have n6_ := Aside0.mk (Kd.R_below (by (with_reducible repeat (first | apply Kd.R_alloc | apply Kd.R_drewN | apply Kd.R_drew)); exact HO495.out) hb); have n7_ := Aside0.mk (Kd.R_below (by (with_reducible repeat (first | apply Kd.R_alloc | apply Kd.R_drewN | apply Kd.R_drew)); exact HO498.out) hb); have n8_ := Aside0.mk (blk_below (g := gb451) (o := .cells #[.int .i64 t446, .slice Ao14 t447.length co14] 25 (0, 0)) (by (with_reducible repeat (first | refine blk_drewN ?_ _ | refine blk_drew ?_ | refine blk_alloc ?_ _)); exact BK451.out) hb); have n9_ := Aside0.mk (blk_below (g := gb462) (o := .cells #[.int .i64 t454, .slice Ao19 t455.length co19] 25 (0, 0)) (by (with_reducible repeat (first | refine blk_drewN ?_ _ | refine blk_drew ?_ | refine blk_alloc ?_ _)); exact BK462.out) hb); have n10_ := Aside0.mk (blk_below (g := gb471) (o := .cells #[.int .i64 t463, .slice Ao25 t464.length co25] 25 (0, 0)) (by (with_reducible repeat (first | refine blk_drewN ?_ _ | refine blk_drew ?_ | refine blk_alloc ?_ _)); exact BK471.out) hb); have n11_ := Aside0.mk (blk_below (g := gb491) (o := .cells #[.int .i64 t483, .slice Ao93 t484.length co93] 25 (0, 0)) (by (with_reducible repeat (first | refine blk_drewN ?_ _ | refine blk_drew ?_ | refine blk_alloc ?_ _)); exact BK491.out) hb); have n12_ := Aside0.mk (blk_below (g := gb500) (o := .cells #[.int .i64 t492, .slice Ao101 t493.length co101] 25 (0, 0)) (by (with_reducible repeat (first | refine blk_drewN ?_ _ | refine blk_drew ?_ | refine blk_alloc ?_ _)); exact BK500.out) hb); have n13_ := Aside0.mk (below_step (by repeat (first | (with_reducible first | exact HB.out | apply below_alloc | apply pw_below_drewN | apply below_drew1 | refine below_set ?_ GE451.out | refine below_set ?_ GE462.out | refine below_set ?_ GE471.out | refine below_set ?_ GE491.out | refine below_set ?_ GE500.out) | exact HB.out)) hb); clear HO_21; clear HO_452001; clear HO_463001; clear HO_472001; clear HO486; clear HO489; clear HO495; clear HO498; clear BK451; clear BK462; clear BK471; clear BK491; clear BK500; clear HB; have HO_21 := n0_; have HO_452001 := n1_; have HO_463001 := n2_; have HO_472001 := n3_; have HO486 := n4_; have HO489 := n5_; have HO495 := n6_; have HO498 := n7_; have BK451 := n8_; have BK462 := n9_; have BK471 := n10_; have BK491 := n11_; have BK500 := n12_; have HB := n13_; clear n0_ n1_ n2_ n3_ n4_ n5_ n6_ n7_ n8_ n9_ n10_ n11_ n12_ n13_; (try clear hb); (try clear hb2); (try clear hk); (try clear hi); have hcz110_0 : w109.cell? ⟨gb491, 0, none⟩ = some (.int .i64 t483) := (blk_cell BK491.out 0).trans rfl; have hcz110_1 : w109.cell? ⟨gb491, 1, none⟩ = some (.slice Ao93 t484.length co93) := (blk_cell BK491.out 1).trans rfl; have hfz110_0 := blk_frozen BK491.out 0; have hfz110_1 := blk_frozen BK491.out 1; have hcz111_0 : w109.cell? ⟨gb451, 0, none⟩ = some (.int .i64 t446) := (blk_cell BK451.out 0).trans rfl; have hcz111_1 : w109.cell? ⟨gb451, 1, none⟩ = some (.slice Ao14 t447.length co14) := (blk_cell BK451.out 1).trans rfl; have hfz111_0 := blk_frozen BK451.out 0; have hfz111_1 := blk_frozen BK451.out 1) | ((with_reducible refine gate_callee (f := 47) rfl ?_); (with_reducible refine gate_dst (N := 199) rfl ?_); refine gate_guard (by rfl) ?_; dsimp only; refine goesL_ (some 199) rfl rfl Try.func47 (by kernel_rfl) rfl #[.slice Ao93 t484.length co93, .slice Ao14 t447.length co14] rfl (by (try simp only [List.map_toArray, List.map_cons, List.map_nil]); first | done | rfl | (simp only [List.length_drop, List.length_take]; rfl)) ?_; (with_reducible refine (L21_in.calls k3 _ _ t484 _ _ t447 true _ ?side1 ?side2 ?side3 ?side4 A77.out).mono ?_); (case side1 => repeat (first | exact (Kd.R_reads' HO486.out).2.2 | (with_reducible refine Kd.C_alloc ?_ _) | (with_reducible refine Kd.C_drewN ?_ _) | (with_reducible refine Kd.C_drew ?_))); (case side2 => exact (Kd.R_reads' HO486.out).2.1); (case side3 => repeat (first | exact (Kd.R_reads' HO_452001.out).2.2 | (with_reducible refine Kd.C_alloc ?_ _) | (with_reducible refine Kd.C_drewN ?_ _) | (with_reducible refine Kd.C_drew ?_))); (case side4 => exact (Kd.R_reads' HO_452001.out).2.1); rintro e w' ⟨rfl, ⟨nd, rfl⟩⟩; refine ⟨_, rfl, ?_⟩; obtain ⟨Ao112, co112, eo112⟩ := Kd.R_slice HO489.out; subst eo112) | ((with_reducible refine gate_callee (f := 30) rfl ?_); (with_reducible refine gate_dst (N := 224) rfl ?_); refine gate_guard (by rfl) ?_; dsimp only; refine goesL_ (some 224) rfl rfl Try.func30 (by kernel_rfl) rfl #[] rfl (by (try simp only [List.map_toArray, List.map_cons, List.map_nil]); first | done | rfl | (simp only [List.length_drop, List.length_take]; rfl)) ?_; (with_reducible refine (L21_awake.calls k3  true _ A82.out).mono ?_); rintro e w113 ⟨rfl, hb⟩; refine ⟨_, rfl, ?_⟩; have n0_ := Aside0.mk (Kd.R_below (by (with_reducible repeat (first | apply Kd.R_alloc | apply Kd.R_drewN | apply Kd.R_drew)); exact HO_21.out) hb); have n1_ := Aside0.mk (Kd.R_below (by (with_reducible repeat (first | apply Kd.R_alloc | apply Kd.R_drewN | apply Kd.R_drew)); exact HO_452001.out) hb); have n2_ := Aside0.mk (Kd.R_below (by (with_reducible repeat (first | apply Kd.R_alloc | apply Kd.R_drewN | apply Kd.R_drew)); exact HO_463001.out) hb); have n3_ := Aside0.mk (Kd.R_below (by (with_reducible repeat (first | apply Kd.R_alloc | apply Kd.R_drewN | apply Kd.R_drew)); exact HO_472001.out) hb); have n4_ := Aside0.mk (Kd.R_below (by (with_reducible repeat (first | apply Kd.R_alloc | apply Kd.R_drewN | apply Kd.R_drew)); exact HO486.out) hb); have n5_ := Aside0.mk (Kd.R_below (by (with_reducible repeat (first | apply Kd.R_alloc | apply Kd.R_drewN | apply Kd.R_drew)); exact HO489.out) hb); have n6_ := Aside0.mk (Kd.R_below (by (with_reducible repeat (first | apply Kd.R_alloc | apply Kd.R_drewN | apply Kd.R_drew)); exact HO495.out) hb); have n7_ := Aside0.mk (Kd.R_below (by (with_reducible repeat (first | apply Kd.R_alloc | apply Kd.R_drewN | apply Kd.R_drew)); exact HO498.out) hb); have n8_ := Aside0.mk (blk_below (g := gb451) (o := .cells #[.int .i64 t446, .slice Ao14 t447.length co14] 25 (0, 0)) (by (with_reducible repeat (first | refine blk_drewN ?_ _ | refine blk_drew ?_ | refine blk_alloc ?_ _)); exact BK451.out) hb); have n9_ := Aside0.mk (blk_below (g := gb462) (o := .cells #[.int .i64 t454, .slice Ao19 t455.length co19] 25 (0, 0)) (by (with_reducible repeat (first | refine blk_drewN ?_ _ | refine blk_drew ?_ | refine blk_alloc ?_ _)); exact BK462.out) hb); have n10_ := Aside0.mk (blk_below (g := gb471) (o := .cells #[.int .i64 t463, .slice Ao25 t464.length co25] 25 (0, 0)) (by (with_reducible repeat (first | refine blk_drewN ?_ _ | refine blk_drew ?_ | refine blk_alloc ?_ _)); exact BK471.out) hb); have n11_ := Aside0.mk (blk_below (g := gb491) (o := .cells #[.int .i64 t483, .slice Ao93 t484.length co93] 25 (0, 0)) (by (with_reducible repeat (first | refine blk_drewN ?_ _ | refine blk_drew ?_ | refine blk_alloc ?_ _)); exact BK491.out) hb); have n12_ := Aside0.mk (blk_below (g := gb500) (o := .cells #[.int .i64 t492, .slice Ao101 t493.length co101] 25 (0, 0)) (by (with_reducible repeat (first | refine blk_drewN ?_ _ | refine blk_drew ?_ | refine blk_alloc ?_ _)); exact BK500.out) hb); have n13_ := Aside0.mk (below_step (by repeat (first | (with_reducible first | exact HB.out | apply below_alloc | apply pw_below_drewN | apply below_drew1 | refine below_set ?_ GE451.out | refine below_set ?_ GE462.out | refine below_set ?_ GE471.out | refine below_set ?_ GE491.out | refine below_set ?_ GE500.out) | exact HB.out)) hb); clear HO_21; clear HO_452001; clear HO_463001; clear HO_472001; clear HO486; clear HO489; clear HO495; clear HO498; clear BK451; clear BK462; clear BK471; clear BK491; clear BK500; clear HB; have HO_21 := n0_; have HO_452001 := n1_; have HO_463001 := n2_; have HO_472001 := n3_; have HO486 := n4_; have HO489 := n5_; have HO495 := n6_; have HO498 := n7_; have BK451 := n8_; have BK462 := n9_; have BK471 := n10_; have BK491 := n11_; have BK500 := n12_; have HB := n13_; clear n0_ n1_ n2_ n3_ n4_ n5_ n6_ n7_ n8_ n9_ n10_ n11_ n12_ n13_; (try clear hb); (try clear hb2); (try clear hk); (try clear hi)))
                                        all_goals go_ret
                                        all_goals exact ⟨by first | rfl | (simp [errW_none, errW_some] <;> rfl) | (simp [*, errW_none, errW_some] <;> rfl), by repeat (first | (with_reducible first | exact HB.out | apply below_alloc | apply pw_below_drewN | apply below_drew1 | refine below_set ?_ GE451.out | refine below_set ?_ GE462.out | refine below_set ?_ GE471.out | refine below_set ?_ GE491.out | refine below_set ?_ GE500.out) | exact HB.out)⟩
                                      · rw [if_neg c81] at H
                                        have c81b0 : (t502 == t505) = false := beq_eq_false_iff_ne.mpr c81
                                        have c81b1 : (t502 != t505) = true := bne_iff_ne.mpr c81
                                        exact absurd H (by repeat (first | exact never_none | exact never_false | refine never_ite ?_ ?_ | refine never_bind (fun _ => ?_) | exact L21_TableKeeps.j0_d104true _ _ _ _ _ _ _ | exact L21_TableKeeps.j1_d132true _ _ _ _ _))
                                    · rw [if_neg c80] at H
                                      have c80b0 : (t501 == t504) = false := beq_eq_false_iff_ne.mpr c80
                                      have c80b1 : (t501 != t504) = true := bne_iff_ne.mpr c80
                                      exact absurd H (by repeat (first | exact never_none | exact never_false | refine never_ite ?_ ?_ | refine never_bind (fun _ => ?_) | exact L21_TableKeeps.j0_d104true _ _ _ _ _ _ _ | exact L21_TableKeeps.j1_d132true _ _ _ _ _))
                                  · rw [if_neg c79] at H
                                    have c79b0 : ((wrap64 ((t484.length : Int) + (t487.length : Int))) == (t447.length : Int)) = false := beq_eq_false_iff_ne.mpr c79
                                    have c79b1 : ((wrap64 ((t484.length : Int) + (t487.length : Int))) != (t447.length : Int)) = true := bne_iff_ne.mpr c79
                                    exact absurd H (by repeat (first | exact never_none | exact never_false | refine never_ite ?_ ?_ | refine never_bind (fun _ => ?_) | exact L21_TableKeeps.j0_d104true _ _ _ _ _ _ _ | exact L21_TableKeeps.j1_d132true _ _ _ _ _))
                                · replace c78 := Bool.eq_false_iff.mpr c78
                                  subst c78
                                  have H1 : (some false) = some true := by rw [if_neg (show ¬ (false = true) by decide)] at H; exact H
                                  clear H
                                  have H := H1
                                  clear H1
                                  exact absurd H (by repeat (first | exact never_none | exact never_false | refine never_ite ?_ ?_ | refine never_bind (fun _ => ?_) | exact L21_TableKeeps.j0_d104true _ _ _ _ _ _ _ | exact L21_TableKeeps.j1_d132true _ _ _ _ _))
                              · replace c76 := Bool.eq_false_iff.mpr c76
                                subst c76
                                have H1 : (some false) = some true := by rw [if_neg (show ¬ (false = true) by decide)] at H; exact H
                                clear H
                                have H := H1
                                clear H1
                                exact absurd H (by repeat (first | exact never_none | exact never_false | refine never_ite ?_ ?_ | refine never_bind (fun _ => ?_) | exact L21_TableKeeps.j0_d104true _ _ _ _ _ _ _ | exact L21_TableKeeps.j1_d132true _ _ _ _ _))
                            · rw [if_neg c74] at H
                              have c74b0 : ((t496.length : Int) == 0) = false := beq_eq_false_iff_ne.mpr c74
                              have c74b1 : ((t496.length : Int) != 0) = true := bne_iff_ne.mpr c74
                              have c74b2 : ¬ (t496 = []) := fun h_ => c74 (by rw [h_]; rfl)
                              exact absurd H (by repeat (first | exact never_none | exact never_false | refine never_ite ?_ ?_ | refine never_bind (fun _ => ?_) | exact L21_TableKeeps.j0_d104true _ _ _ _ _ _ _ | exact L21_TableKeeps.j1_d132true _ _ _ _ _))
                          · rw [if_neg c73] at H
                            have c73b0 : (t506 == 0) = false := beq_eq_false_iff_ne.mpr c73
                            have c73b1 : (t506 != 0) = true := bne_iff_ne.mpr c73
                            exact absurd H (by repeat (first | exact never_none | exact never_false | refine never_ite ?_ ?_ | refine never_bind (fun _ => ?_) | exact L21_TableKeeps.j0_d104true _ _ _ _ _ _ _ | exact L21_TableKeeps.j1_d132true _ _ _ _ _))
                        · rw [if_neg c72] at H
                          have c72b0 : (t503 == 0) = false := beq_eq_false_iff_ne.mpr c72
                          have c72b1 : (t503 != 0) = true := bne_iff_ne.mpr c72
                          exact absurd H (by repeat (first | exact never_none | exact never_false | refine never_ite ?_ ?_ | refine never_bind (fun _ => ?_) | exact L21_TableKeeps.j0_d104true _ _ _ _ _ _ _ | exact L21_TableKeeps.j1_d132true _ _ _ _ _))
                      · rw [if_neg c71] at H
                        have c71b0 : (t499 == 0) = false := beq_eq_false_iff_ne.mpr c71
                        have c71b1 : (t499 != 0) = true := bne_iff_ne.mpr c71
                        exact absurd H (by repeat (first | exact never_none | exact never_false | refine never_ite ?_ ?_ | refine never_bind (fun _ => ?_) | exact L21_TableKeeps.j0_d104true _ _ _ _ _ _ _ | exact L21_TableKeeps.j1_d132true _ _ _ _ _))
                    · rw [if_neg c70] at H
                      have c70b0 : (t490 == 0) = false := beq_eq_false_iff_ne.mpr c70
                      have c70b1 : (t490 != 0) = true := bne_iff_ne.mpr c70
                      exact absurd H (by repeat (first | exact never_none | exact never_false | refine never_ite ?_ ?_ | refine never_bind (fun _ => ?_) | exact L21_TableKeeps.j0_d104true _ _ _ _ _ _ _ | exact L21_TableKeeps.j1_d132true _ _ _ _ _))

/-- THE ONE PURE STATEMENT of L21_TableKeeps: yours. -/
def L21_TableKeeps.Pure : Prop := ∀ (a0 : Int) (l1 : List Int) (a2 : Int) (a3 : Int), (Lit.int .i64 a0).wf = true → l1.length ≤ maxLen → l1.length * 8 ≤ 140737488351232 → (∀ x ∈ l1, (Lit.int .i64 x).wf = true) → (Lit.int .i64 a2).wf = true → (Lit.int .i64 a3).wf = true → ∃ k, L21_TableKeeps.f k a0 l1 a2 a3 = some true
theorem L21_TableKeeps.walk (P : L21_TableKeeps.Pure) (a0 : Int) (a1 : Option Addr) (len1 cap1 : Nat) (z1 : List Int) (a2 : Int) (a3 : Int) (w : World) (w0 : (Lit.int .i64 a0).wf = true) (w1 : (a1 = none ∧ len1 = 0 ∧ cap1 = 0 ∧ z1 = []) ∨ ∃ x, a1 = some x ∧ len1 ≤ cap1 ∧ cap1 ≤ maxLen ∧ z1.length = cap1 ∧ (∀ i, i < z1.length → w.cell? (x.add i) = some (.int .i64 (z1.getD i 0))) ∧ ∀ n ∈ z1, (Lit.int .i64 n).wf = true) (y1 : len1 * 8 ≤ 140737488351232) (w2 : (Lit.int .i64 a2).wf = true) (w3 : (Lit.int .i64 a3).wf = true) :
    Calls Try.prog 7 #[.int .i64 a0, .slice a1 len1 cap1, .int .i64 a2, .int .i64 a3] w fun e w' => e = .returned (.bool true) ∧ Below w.heap.size w w' := by
  obtain ⟨l1, rfl, hr1, hm1, hw1, hc1⟩ := ReadsInt.ofRowC w1
  obtain ⟨k, h⟩ := P a0 l1 a2 a3 w0 hm1 y1 hw1 w2 w3
  refine (L21_TableKeeps.calls k a0 _ _ l1 a2 a3 true w (Kd.C_of_reads (d := (0 : Int)) (h1 := fun _ => rfl) hr1) hc1 h).mono ?_
  rintro e w' ⟨rfl, hd⟩
  exact ⟨rfl, hd⟩

end Go.Proofs.Ytmfbpkjhabdcgaa.F
end
