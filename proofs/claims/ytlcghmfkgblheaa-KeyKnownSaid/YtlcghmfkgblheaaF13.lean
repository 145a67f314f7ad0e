-- Written by fork.py (this session's program over the kit's print.py). Not trusted: Lean checks it.
import Derived.Test.YtlcghmfkgblheaaF0
import Derived.Test.YtlcghmfkgblheaaF1
import Derived.Test.YtlcghmfkgblheaaF12
import Derived.Test.YtlcghmfkgblheaaF3
import Derived.Test.YtlcghmfkgblheaaF4
import Derived.Test.YtlcghmfkgblheaaF5
namespace Go.Proofs.Ytlcghmfkgblheaa.F
open Go.RowKit Go.Proofs.YtlcghmfkgblheaaW.PrintWords Go.Proofs.YtlcghmfkgblheaaW.PrintLast Go.Proofs.YtlcghmfkgblheaaW.PrintMore
attribute [local go_sem] max2_int min2_int max_two min_two max_three min_three max_four min_four
set_option linter.unusedVariables false
set_option linter.unusedSimpArgs false

/-! ### L22_KeyKnown: function 5 -/
def L22_KeyKnown.j0 : Nat → Bool → Option (Bool)
  | 0, _ => none
  | k + 1, x80 => if x80 = true then (some false) else ((key_New.f k (([7, 7] : List Int)) 10).bind fun bt405 => ((key_New.f k (([0] : List Int)) 10).bind fun bt414 => ((key_New.f k (([7, 42] : List Int)) 0).bind fun bt423 => (if bt405.2.2.2 = 8 then (if bt414.2.2.2 = 2 then (if bt423.2.2.2 = 2 then ((L22_awake.f k).bind fun t429 => (some t429)) else (some false)) else (some false)) else (some false)))))
def L22_KeyKnown.f (k : Nat)  : Option (Bool) := (L22_state.f (-1)).bind fun bt345 => ((key_Present.f k bt345.1 bt345.2.1 bt345.2.2 9 5).bind fun bt350 => ((L22_state.f 5).bind fun bt358 => ((key_Present.f k bt358.1 bt358.2.1 bt358.2.2 7 4).bind fun bt363 => ((L22_state.f 5).bind fun bt371 => ((key_Present.f k bt371.1 bt371.2.1 bt371.2.2 7 5).bind fun bt376 => ((L22_state.f (-1)).bind fun bt384 => ((L22_same.f k bt350.1 bt350.2.1 bt350.2.2.1 bt384.1 bt384.2.1 bt384.2.2).bind fun t389 => (if t389 = true then (if bt350.2.2.2.1 = true then (L22_KeyKnown.j0 k true) else (if bt350.2.2.2.2 = 0 then (if bt363.2.2.2.2 = 8 then ((L22_state.f 5).bind fun bt390 => ((L22_same.f k bt376.1 bt376.2.1 bt376.2.2.1 bt390.1 bt390.2.1 bt390.2.2).bind fun t395 => (if t395 = true then (if bt376.2.2.2.1 = true then (if bt376.2.2.2.2 = 0 then ((L22_left.f k 4 0).bind fun t396 => (if t396 = true then ((L22_left.f k 5 10).bind fun t397 => (if t397 = true then ((L22_left.f k 15 0).bind fun t398 => (if t398 = true then ((L22_covers.f 5 22 true).bind fun t399 => (if t399 = true then ((L22_covers.f 5 23 false).bind fun t400 => (if t400 = true then ((L22_covers.f 22 22 true).bind fun t401 => (L22_KeyKnown.j0 k (!t401))) else (L22_KeyKnown.j0 k true))) else (L22_KeyKnown.j0 k true))) else (L22_KeyKnown.j0 k true))) else (L22_KeyKnown.j0 k true))) else (L22_KeyKnown.j0 k true))) else (L22_KeyKnown.j0 k true)) else (L22_KeyKnown.j0 k true)) else (L22_KeyKnown.j0 k true)))) else (L22_KeyKnown.j0 k true)) else (L22_KeyKnown.j0 k true))) else (L22_KeyKnown.j0 k true)))))))))
theorem L22_KeyKnown.mono_l : ∀ k, (∀ y0, LeO (L22_KeyKnown.j0 k y0) (L22_KeyKnown.j0 (k + 1) y0))
  | 0 => fun _ r h => by simp [L22_KeyKnown.j0] at h
  | k + 1 => by
    have ih0 := L22_KeyKnown.mono_l k
    · intro y0
      unfold L22_KeyKnown.j0
      repeat' first
      | (with_reducible exact ih0 _)
      | (with_reducible exact L22_awake.mono _)
      | (with_reducible exact L22_left.mono _ _ _)
      | (with_reducible exact L22_same.mono _ _ _ _ _ _ _)
      | (with_reducible exact key_New.mono _ _ _)
      | (with_reducible exact key_Present.mono _ _ _ _ _ _)
      | (with_reducible exact LeO.refl _)
      | (with_reducible exact LeO.none _)
      | (with_reducible refine LeO.ite ?_ ?_)
      | (with_reducible refine LeO.bind ?_ (fun _ => ?_))
      | exact ih0 _
      | exact L22_awake.mono _
      | exact L22_left.mono _ _ _
      | exact L22_same.mono _ _ _ _ _ _ _
      | exact key_New.mono _ _ _
      | exact key_Present.mono _ _ _ _ _ _
      | exact LeO.none _
      | refine LeO.ite ?_ ?_
      | refine LeO.bind ?_ (fun _ => ?_)
theorem L22_KeyKnown.mono : ∀ k, LeO (L22_KeyKnown.f k ) (L22_KeyKnown.f (k + 1) ) := by
  intro  k
  have ih0 := L22_KeyKnown.mono_l k
  unfold L22_KeyKnown.f
  repeat' first
      | (with_reducible exact ih0 _)
      | (with_reducible exact L22_awake.mono _)
      | (with_reducible exact L22_left.mono _ _ _)
      | (with_reducible exact L22_same.mono _ _ _ _ _ _ _)
      | (with_reducible exact key_New.mono _ _ _)
      | (with_reducible exact key_Present.mono _ _ _ _ _ _)
      | (with_reducible exact LeO.refl _)
      | (with_reducible exact LeO.none _)
      | (with_reducible refine LeO.ite ?_ ?_)
      | (with_reducible refine LeO.bind ?_ (fun _ => ?_))
      | exact ih0 _
      | exact L22_awake.mono _
      | exact L22_left.mono _ _ _
      | exact L22_same.mono _ _ _ _ _ _ _
      | exact key_New.mono _ _ _
      | exact key_Present.mono _ _ _ _ _ _
      | exact LeO.none _
      | refine LeO.ite ?_ ?_
      | refine LeO.bind ?_ (fun _ => ?_)
theorem L22_KeyKnown.j0_d80true (k : Nat)  : L22_KeyKnown.j0 k true ≠ some true := by
  cases k with
  | zero => simp only [L22_KeyKnown.j0]; exact never_none
  | succ k =>
    simp only [L22_KeyKnown.j0]
    all_goals (try rw [if_pos rfl])
    all_goals (repeat (first | exact never_none | exact never_false | refine never_ite ?_ ?_ | refine never_bind (fun _ => ?_)))
def L22_KeyKnown.T4 : Bool × List (List Nat × List Nat) := (true, [([], []), ([], []), ([0, 1, 1], [0, 1]), ([2], [2]), ([3, 2], [3]), ([4], [4]), ([4, 5], [4, 5]), ([6, 4], [6]), ([7], [7]), ([8, 7], [7, 8]), ([7, 9], [7, 9]), ([10, 7], [10]), ([11], [11]), ([12, 11], [11, 12]), ([11, 13], [11, 13]), ([14, 11], [14]), ([15], [15]), ([15, 15], [15]), ([16, 17, 17, 15], [15, 16, 17]), ([18, 15], [15, 18]), ([15, 19], [15, 19]), ([20, 18], [20]), ([21], [21]), ([22, 21], [21, 22]), ([21, 23], [21, 23]), ([24, 21], [24]), ([25], [25]), ([26, 25], [25, 26]), ([25, 27], [25, 27]), ([28, 25], [28]), ([29, 29], [29]), ([30, 29], [29, 30]), ([29, 31], [29, 31]), ([32, 30], [32]), ([33, 33], [33]), ([34, 33], [33, 34]), ([33, 35], [33, 35]), ([36, 34], [36]), ([37, 37], [37]), ([38, 37], [37, 38]), ([37, 39], [37, 39]), ([40, 38], [40]), ([41, 41], [41]), ([42, 41], [41, 42]), ([41, 43], [41, 43]), ([44, 42], [44]), ([45, 45], [45]), ([46, 45], [45, 46]), ([45, 47], [45, 47]), ([48, 46], [48]), ([49, 49], [49]), ([50, 49], [49, 50]), ([49, 51], [49, 51])])
def L22_KeyKnown.B4 : List Nat := [0, 0, 3, 7, 15, 31, 63, 127, 255, 511, 1023, 2047, 4095, 8191, 16383, 32767, 65535, 65535, 262143, 524287, 1048575, 2097151, 4194303, 8388607, 16777215, 33554431, 67108863, 134217727, 268435455, 536870911, 1073741823, 2147483647, 4294967295, 8589934591, 17179869183, 34359738367, 68719476735, 137438953471, 274877906943, 549755813887, 1099511627775, 2199023255551, 4398046511103, 8796093022207, 17592186044415, 35184372088831, 70368744177663, 140737488355327, 281474976710655, 562949953421311, 1125899906842623, 2251799813685247, 4503599627370495]
theorem L22_KeyKnown.tab4 : rtab .any (opsOf Try.f5 4) = L22_KeyKnown.T4 := by kernel_rfl
theorem L22_KeyKnown.bits4 : waitsOk L22_KeyKnown.T4.2 L22_KeyKnown.B4 = true := by kernel_rfl
set_option maxHeartbeats 8000000 in
set_option maxRecDepth 100000 in
theorem L22_KeyKnown.calls (k : Nat)  (r : Bool) (w : World) (h : L22_KeyKnown.f k  = some r) (ht_ : r = true := by rfl) :
    Calls Try.prog 5 #[] w fun e w' => e = .returned (.bool r) ∧ Below w.heap.size w w' := by
  subst ht_
  have hu24 := Try.underlying24
  have HB := Aside0.mk (Below.refl w.heap.size w)
  have H : ((L22_state.f (-1)).bind fun bt345 => ((key_Present.f k bt345.1 bt345.2.1 bt345.2.2 9 5).bind fun bt350 => ((L22_state.f 5).bind fun bt358 => ((key_Present.f k bt358.1 bt358.2.1 bt358.2.2 7 4).bind fun bt363 => ((L22_state.f 5).bind fun bt371 => ((key_Present.f k bt371.1 bt371.2.1 bt371.2.2 7 5).bind fun bt376 => ((L22_state.f (-1)).bind fun bt384 => ((L22_same.f k bt350.1 bt350.2.1 bt350.2.2.1 bt384.1 bt384.2.1 bt384.2.2).bind fun t389 => (if t389 = true then (if bt350.2.2.2.1 = true then (L22_KeyKnown.j0 k true) else (if bt350.2.2.2.2 = 0 then (if bt363.2.2.2.2 = 8 then ((L22_state.f 5).bind fun bt390 => ((L22_same.f k bt376.1 bt376.2.1 bt376.2.2.1 bt390.1 bt390.2.1 bt390.2.2).bind fun t395 => (if t395 = true then (if bt376.2.2.2.1 = true then (if bt376.2.2.2.2 = 0 then ((L22_left.f k 4 0).bind fun t396 => (if t396 = true then ((L22_left.f k 5 10).bind fun t397 => (if t397 = true then ((L22_left.f k 15 0).bind fun t398 => (if t398 = true then ((L22_covers.f 5 22 true).bind fun t399 => (if t399 = true then ((L22_covers.f 5 23 false).bind fun t400 => (if t400 = true then ((L22_covers.f 22 22 true).bind fun t401 => (L22_KeyKnown.j0 k (!t401))) else (L22_KeyKnown.j0 k true))) else (L22_KeyKnown.j0 k true))) else (L22_KeyKnown.j0 k true))) else (L22_KeyKnown.j0 k true))) else (L22_KeyKnown.j0 k true))) else (L22_KeyKnown.j0 k true)) else (L22_KeyKnown.j0 k true)) else (L22_KeyKnown.j0 k true)))) else (L22_KeyKnown.j0 k true)) else (L22_KeyKnown.j0 k true))) else (L22_KeyKnown.j0 k true)))))))))) = some true := h
  clear h
  replace H := Option.bind_eq_some_iff.mp H
  obtain ⟨⟨t345, t348, t349⟩, A10, H⟩ := H
  replace H : ((key_Present.f k t345 t348 t349 9 5).bind fun bt350 => ((L22_state.f 5).bind fun bt358 => ((key_Present.f k bt358.1 bt358.2.1 bt358.2.2 7 4).bind fun bt363 => ((L22_state.f 5).bind fun bt371 => ((key_Present.f k bt371.1 bt371.2.1 bt371.2.2 7 5).bind fun bt376 => ((L22_state.f (-1)).bind fun bt384 => ((L22_same.f k bt350.1 bt350.2.1 bt350.2.2.1 bt384.1 bt384.2.1 bt384.2.2).bind fun t389 => (if t389 = true then (if bt350.2.2.2.1 = true then (L22_KeyKnown.j0 k true) else (if bt350.2.2.2.2 = 0 then (if bt363.2.2.2.2 = 8 then ((L22_state.f 5).bind fun bt390 => ((L22_same.f k bt376.1 bt376.2.1 bt376.2.2.1 bt390.1 bt390.2.1 bt390.2.2).bind fun t395 => (if t395 = true then (if bt376.2.2.2.1 = true then (if bt376.2.2.2.2 = 0 then ((L22_left.f k 4 0).bind fun t396 => (if t396 = true then ((L22_left.f k 5 10).bind fun t397 => (if t397 = true then ((L22_left.f k 15 0).bind fun t398 => (if t398 = true then ((L22_covers.f 5 22 true).bind fun t399 => (if t399 = true then ((L22_covers.f 5 23 false).bind fun t400 => (if t400 = true then ((L22_covers.f 22 22 true).bind fun t401 => (L22_KeyKnown.j0 k (!t401))) else (L22_KeyKnown.j0 k true))) else (L22_KeyKnown.j0 k true))) else (L22_KeyKnown.j0 k true))) else (L22_KeyKnown.j0 k true))) else (L22_KeyKnown.j0 k true))) else (L22_KeyKnown.j0 k true)) else (L22_KeyKnown.j0 k true)) else (L22_KeyKnown.j0 k true)))) else (L22_KeyKnown.j0 k true)) else (L22_KeyKnown.j0 k true))) else (L22_KeyKnown.j0 k true))))))))) = some true := H
  have A1 := Aside0.mk A10
  clear A10
  replace H := Option.bind_eq_some_iff.mp H
  obtain ⟨⟨t350, t353, t354, t355, t356⟩, A20, H⟩ := H
  replace H : ((L22_state.f 5).bind fun bt358 => ((key_Present.f k bt358.1 bt358.2.1 bt358.2.2 7 4).bind fun bt363 => ((L22_state.f 5).bind fun bt371 => ((key_Present.f k bt371.1 bt371.2.1 bt371.2.2 7 5).bind fun bt376 => ((L22_state.f (-1)).bind fun bt384 => ((L22_same.f k t350 t353 t354 bt384.1 bt384.2.1 bt384.2.2).bind fun t389 => (if t389 = true then (if t355 = true then (L22_KeyKnown.j0 k true) else (if t356 = 0 then (if bt363.2.2.2.2 = 8 then ((L22_state.f 5).bind fun bt390 => ((L22_same.f k bt376.1 bt376.2.1 bt376.2.2.1 bt390.1 bt390.2.1 bt390.2.2).bind fun t395 => (if t395 = true then (if bt376.2.2.2.1 = true then (if bt376.2.2.2.2 = 0 then ((L22_left.f k 4 0).bind fun t396 => (if t396 = true then ((L22_left.f k 5 10).bind fun t397 => (if t397 = true then ((L22_left.f k 15 0).bind fun t398 => (if t398 = true then ((L22_covers.f 5 22 true).bind fun t399 => (if t399 = true then ((L22_covers.f 5 23 false).bind fun t400 => (if t400 = true then ((L22_covers.f 22 22 true).bind fun t401 => (L22_KeyKnown.j0 k (!t401))) else (L22_KeyKnown.j0 k true))) else (L22_KeyKnown.j0 k true))) else (L22_KeyKnown.j0 k true))) else (L22_KeyKnown.j0 k true))) else (L22_KeyKnown.j0 k true))) else (L22_KeyKnown.j0 k true)) else (L22_KeyKnown.j0 k true)) else (L22_KeyKnown.j0 k true)))) else (L22_KeyKnown.j0 k true)) else (L22_KeyKnown.j0 k true))) else (L22_KeyKnown.j0 k true)))))))) = some true := H
  have A2 := Aside0.mk A20
  clear A20
  replace H := Option.bind_eq_some_iff.mp H
  obtain ⟨⟨t358, t361, t362⟩, A30, H⟩ := H
  replace H : ((key_Present.f k t358 t361 t362 7 4).bind fun bt363 => ((L22_state.f 5).bind fun bt371 => ((key_Present.f k bt371.1 bt371.2.1 bt371.2.2 7 5).bind fun bt376 => ((L22_state.f (-1)).bind fun bt384 => ((L22_same.f k t350 t353 t354 bt384.1 bt384.2.1 bt384.2.2).bind fun t389 => (if t389 = true then (if t355 = true then (L22_KeyKnown.j0 k true) else (if t356 = 0 then (if bt363.2.2.2.2 = 8 then ((L22_state.f 5).bind fun bt390 => ((L22_same.f k bt376.1 bt376.2.1 bt376.2.2.1 bt390.1 bt390.2.1 bt390.2.2).bind fun t395 => (if t395 = true then (if bt376.2.2.2.1 = true then (if bt376.2.2.2.2 = 0 then ((L22_left.f k 4 0).bind fun t396 => (if t396 = true then ((L22_left.f k 5 10).bind fun t397 => (if t397 = true then ((L22_left.f k 15 0).bind fun t398 => (if t398 = true then ((L22_covers.f 5 22 true).bind fun t399 => (if t399 = true then ((L22_covers.f 5 23 false).bind fun t400 => (if t400 = true then ((L22_covers.f 22 22 true).bind fun t401 => (L22_KeyKnown.j0 k (!t401))) else (L22_KeyKnown.j0 k true))) else (L22_KeyKnown.j0 k true))) else (L22_KeyKnown.j0 k true))) else (L22_KeyKnown.j0 k true))) else (L22_KeyKnown.j0 k true))) else (L22_KeyKnown.j0 k true)) else (L22_KeyKnown.j0 k true)) else (L22_KeyKnown.j0 k true)))) else (L22_KeyKnown.j0 k true)) else (L22_KeyKnown.j0 k true))) else (L22_KeyKnown.j0 k true))))))) = some true := H
  have A3 := Aside0.mk A30
  clear A30
  replace H := Option.bind_eq_some_iff.mp H
  obtain ⟨⟨t363, t366, t367, t368, t369⟩, A40, H⟩ := H
  replace H : ((L22_state.f 5).bind fun bt371 => ((key_Present.f k bt371.1 bt371.2.1 bt371.2.2 7 5).bind fun bt376 => ((L22_state.f (-1)).bind fun bt384 => ((L22_same.f k t350 t353 t354 bt384.1 bt384.2.1 bt384.2.2).bind fun t389 => (if t389 = true then (if t355 = true then (L22_KeyKnown.j0 k true) else (if t356 = 0 then (if t369 = 8 then ((L22_state.f 5).bind fun bt390 => ((L22_same.f k bt376.1 bt376.2.1 bt376.2.2.1 bt390.1 bt390.2.1 bt390.2.2).bind fun t395 => (if t395 = true then (if bt376.2.2.2.1 = true then (if bt376.2.2.2.2 = 0 then ((L22_left.f k 4 0).bind fun t396 => (if t396 = true then ((L22_left.f k 5 10).bind fun t397 => (if t397 = true then ((L22_left.f k 15 0).bind fun t398 => (if t398 = true then ((L22_covers.f 5 22 true).bind fun t399 => (if t399 = true then ((L22_covers.f 5 23 false).bind fun t400 => (if t400 = true then ((L22_covers.f 22 22 true).bind fun t401 => (L22_KeyKnown.j0 k (!t401))) else (L22_KeyKnown.j0 k true))) else (L22_KeyKnown.j0 k true))) else (L22_KeyKnown.j0 k true))) else (L22_KeyKnown.j0 k true))) else (L22_KeyKnown.j0 k true))) else (L22_KeyKnown.j0 k true)) else (L22_KeyKnown.j0 k true)) else (L22_KeyKnown.j0 k true)))) else (L22_KeyKnown.j0 k true)) else (L22_KeyKnown.j0 k true))) else (L22_KeyKnown.j0 k true)))))) = some true := H
  have A4 := Aside0.mk A40
  clear A40
  replace H := Option.bind_eq_some_iff.mp H
  obtain ⟨⟨t371, t374, t375⟩, A50, H⟩ := H
  replace H : ((key_Present.f k t371 t374 t375 7 5).bind fun bt376 => ((L22_state.f (-1)).bind fun bt384 => ((L22_same.f k t350 t353 t354 bt384.1 bt384.2.1 bt384.2.2).bind fun t389 => (if t389 = true then (if t355 = true then (L22_KeyKnown.j0 k true) else (if t356 = 0 then (if t369 = 8 then ((L22_state.f 5).bind fun bt390 => ((L22_same.f k bt376.1 bt376.2.1 bt376.2.2.1 bt390.1 bt390.2.1 bt390.2.2).bind fun t395 => (if t395 = true then (if bt376.2.2.2.1 = true then (if bt376.2.2.2.2 = 0 then ((L22_left.f k 4 0).bind fun t396 => (if t396 = true then ((L22_left.f k 5 10).bind fun t397 => (if t397 = true then ((L22_left.f k 15 0).bind fun t398 => (if t398 = true then ((L22_covers.f 5 22 true).bind fun t399 => (if t399 = true then ((L22_covers.f 5 23 false).bind fun t400 => (if t400 = true then ((L22_covers.f 22 22 true).bind fun t401 => (L22_KeyKnown.j0 k (!t401))) else (L22_KeyKnown.j0 k true))) else (L22_KeyKnown.j0 k true))) else (L22_KeyKnown.j0 k true))) else (L22_KeyKnown.j0 k true))) else (L22_KeyKnown.j0 k true))) else (L22_KeyKnown.j0 k true)) else (L22_KeyKnown.j0 k true)) else (L22_KeyKnown.j0 k true)))) else (L22_KeyKnown.j0 k true)) else (L22_KeyKnown.j0 k true))) else (L22_KeyKnown.j0 k true))))) = some true := H
  have A5 := Aside0.mk A50
  clear A50
  replace H := Option.bind_eq_some_iff.mp H
  obtain ⟨⟨t376, t379, t380, t381, t382⟩, A60, H⟩ := H
  replace H : ((L22_state.f (-1)).bind fun bt384 => ((L22_same.f k t350 t353 t354 bt384.1 bt384.2.1 bt384.2.2).bind fun t389 => (if t389 = true then (if t355 = true then (L22_KeyKnown.j0 k true) else (if t356 = 0 then (if t369 = 8 then ((L22_state.f 5).bind fun bt390 => ((L22_same.f k t376 t379 t380 bt390.1 bt390.2.1 bt390.2.2).bind fun t395 => (if t395 = true then (if t381 = true then (if t382 = 0 then ((L22_left.f k 4 0).bind fun t396 => (if t396 = true then ((L22_left.f k 5 10).bind fun t397 => (if t397 = true then ((L22_left.f k 15 0).bind fun t398 => (if t398 = true then ((L22_covers.f 5 22 true).bind fun t399 => (if t399 = true then ((L22_covers.f 5 23 false).bind fun t400 => (if t400 = true then ((L22_covers.f 22 22 true).bind fun t401 => (L22_KeyKnown.j0 k (!t401))) else (L22_KeyKnown.j0 k true))) else (L22_KeyKnown.j0 k true))) else (L22_KeyKnown.j0 k true))) else (L22_KeyKnown.j0 k true))) else (L22_KeyKnown.j0 k true))) else (L22_KeyKnown.j0 k true)) else (L22_KeyKnown.j0 k true)) else (L22_KeyKnown.j0 k true)))) else (L22_KeyKnown.j0 k true)) else (L22_KeyKnown.j0 k true))) else (L22_KeyKnown.j0 k true)))) = some true := H
  have A6 := Aside0.mk A60
  clear A60
  have HC7 := Aside0.mk H
  clear H
  go_enter Try.func5, Try.ntmps5
  go_upto_region 4 with (first | ((with_reducible refine gate_callee (f := 21) rfl ?_); refine goesL_ (some 11) rfl rfl Try.func21 (by kernel_rfl) rfl #[.int .i64 (-1)] rfl (by (try simp only [List.map_toArray, List.map_cons, List.map_nil]); first | done | rfl | (simp only [List.length_drop, List.length_take]; rfl)) ?_; (with_reducible refine (L22_state.calls (-1) t345 t348 t349 _ A1.out).mono ?_); rintro e w8 ⟨v346, rfl, ho0, hb⟩; refine ⟨_, rfl, ?_⟩; have n0_ := Aside0.mk (Kd.R_lower ho0 (below_size (by repeat (first | (with_reducible first | exact HB.out | apply below_alloc | apply pw_below_drewN | apply below_drew1) | exact HB.out)))); have n1_ := Aside0.mk (below_step (by repeat (first | (with_reducible first | exact HB.out | apply below_alloc | apply pw_below_drewN | apply below_drew1) | exact HB.out)) hb); clear HB; have HO347 := n0_; have HB := n1_; clear n0_ n1_; (try clear hb); (try clear hb2); (try clear hk); (try clear hi); (try clear ho0); obtain ⟨Ao9, co9, eo9⟩ := Kd.R_slice HO347.out; subst eo9) | ((with_reducible refine gate_callee (f := 11) rfl ?_); refine goesL_ (some 12) rfl rfl Try.func11 (by kernel_rfl) rfl #[.agg #[.slice Ao9 t345.length co9, .int .i64 t348, .int .i64 t349], .int .i64 9, .int .i64 5] rfl (by (try simp only [List.map_toArray, List.map_cons, List.map_nil]); first | done | rfl | (simp only [List.length_drop, List.length_take]; rfl)) ?_; (with_reducible refine (key_Present.calls k _ _ t345 t348 t349 9 5 t350 t353 t354 t355 t356 _ ?side1 ?side2 A2.out).mono ?_); (case side1 => repeat (first | exact (Kd.R_reads' HO347.out).2.2 | (with_reducible refine Kd.C_alloc ?_ _) | (with_reducible refine Kd.C_drewN ?_ _) | (with_reducible refine Kd.C_drew ?_))); (case side2 => exact (Kd.R_reads' HO347.out).2.1); rintro e w10 ⟨v351, rfl, ho0, hb⟩; refine ⟨_, rfl, ?_⟩; have n0_ := Aside0.mk (Kd.R_elder' (by (with_reducible repeat (first | apply Kd.R_alloc | apply Kd.R_drewN | apply Kd.R_drew)); exact HO347.out) (Kd.R_base ho0) hb); have n1_ := Aside0.mk (Kd.R_lower (Kd.R_new' ho0 (Kd.R_lt (by (with_reducible repeat (first | apply Kd.R_alloc | apply Kd.R_drewN | apply Kd.R_drew)); exact HO347.out))) (below_size (by repeat (first | (with_reducible first | exact HB.out | apply below_alloc | apply pw_below_drewN | apply below_drew1) | exact HB.out)))); have n2_ := Aside0.mk (below_step (by repeat (first | (with_reducible first | exact HB.out | apply below_alloc | apply pw_below_drewN | apply below_drew1) | exact HB.out)) hb); clear HO347; clear HB; have HO347 := n0_; have HO352 := n1_; have HB := n2_; clear n0_ n1_ n2_; (try clear hb); (try clear hb2); (try clear hk); (try clear hi); (try clear ho0)) | ((with_reducible refine gate_dst (N := 1) rfl ?_); refine box_event ?hg (N := 1) ?hd (cs := #[.slice none 0 0, .int .i64 0, .int .i64 0]) (t := 24) ?hr ?_; (case hd => rfl); (case hg => rfl); (case hr => first | (go_simp; done) | (go_simp; rfl)); intro gb357 hg w11 hbox hb; have n0_ := Aside0.mk (Kd.R_below (by (with_reducible repeat (first | apply Kd.R_alloc | apply Kd.R_drewN | apply Kd.R_drew)); exact HO347.out) hb); have n1_ := Aside0.mk (Kd.R_below (by (with_reducible repeat (first | apply Kd.R_alloc | apply Kd.R_drewN | apply Kd.R_drew)); exact HO352.out) hb); have n2_ := Aside0.mk (below_step (by repeat (first | (with_reducible first | exact HB.out | apply below_alloc | apply pw_below_drewN | apply below_drew1) | exact HB.out)) hb); have n3_ := Aside0.mk (hbox); have n4_ := Aside0.mk ((by rw [hg]; exact (below_size (by repeat (first | (with_reducible first | exact HB.out | apply below_alloc | apply pw_below_drewN | apply below_drew1) | exact HB.out))) : w.heap.size ≤ gb357)); have n5_ := Aside0.mk ((by rw [hg]; exact (below_size (by repeat (first | (with_reducible first | exact HB.out | apply below_alloc | apply pw_below_drewN | apply below_drew1) | exact HB.out))) : w.heap.size ≤ gb357)); clear HO347; clear HO352; clear HB; have HO347 := n0_; have HO352 := n1_; have HB := n2_; have BK357 := n3_; have GW357 := n4_; have GE357 := n5_; clear n0_ n1_ n2_ n3_ n4_ n5_; clear hb hbox hg; obtain ⟨Ao12, co12, eo12⟩ := Kd.R_slice HO352.out; subst eo12; have hcz13_0 : w11.cell? ⟨gb357, 0, none⟩ = some (.slice none 0 0) := (blk_cell BK357.out 0).trans rfl; have hcz13_1 : w11.cell? ⟨gb357, 1, none⟩ = some (.int .i64 0) := (blk_cell BK357.out 1).trans rfl; have hcz13_2 : w11.cell? ⟨gb357, 2, none⟩ = some (.int .i64 0) := (blk_cell BK357.out 2).trans rfl; have hfz13_0 := blk_frozen BK357.out 0; have hfz13_1 := blk_frozen BK357.out 1; have hfz13_2 := blk_frozen BK357.out 2) | ((with_reducible refine gate_callee (f := 21) rfl ?_); refine goesL_ (some 17) rfl rfl Try.func21 (by kernel_rfl) rfl #[.int .i64 5] rfl (by (try simp only [List.map_toArray, List.map_cons, List.map_nil]); first | done | rfl | (simp only [List.length_drop, List.length_take]; rfl)) ?_; (with_reducible refine (L22_state.calls 5 t358 t361 t362 _ A3.out).mono ?_); rintro e w14 ⟨v359, rfl, ho0, hb⟩; refine ⟨_, rfl, ?_⟩; have n0_ := Aside0.mk (Kd.R_elder' (by (with_reducible repeat (first | apply Kd.R_alloc | apply Kd.R_drewN | apply Kd.R_drew)); exact (Kd.R_mono (Kd.R_far (p := ⟨gb357, 2, none⟩) (Kd.R_far (p := ⟨gb357, 1, none⟩) (Kd.R_far (p := ⟨gb357, 0, none⟩) (Kd.R_types HO347.out BK357.out (by decide)) (fun _ hk => hk.2) (.slice Ao12 t350.length co12)) (fun _ hk => hk.2) (.int .i64 t353)) (fun _ hk => hk.2) (.int .i64 t354)) (fun _ h_ => h_.1))) (Kd.R_base ho0) hb); have n1_ := Aside0.mk (Kd.R_elder' (by (with_reducible repeat (first | apply Kd.R_alloc | apply Kd.R_drewN | apply Kd.R_drew)); exact (Kd.R_mono (Kd.R_far (p := ⟨gb357, 2, none⟩) (Kd.R_far (p := ⟨gb357, 1, none⟩) (Kd.R_far (p := ⟨gb357, 0, none⟩) (Kd.R_types HO352.out BK357.out (by decide)) (fun _ hk => hk.2) (.slice Ao12 t350.length co12)) (fun _ hk => hk.2) (.int .i64 t353)) (fun _ hk => hk.2) (.int .i64 t354)) (fun _ h_ => h_.1))) (Kd.R_base ho0) hb); have n2_ := Aside0.mk (Kd.R_lower (Kd.R_new' (Kd.R_new' ho0 (Kd.R_lt (by (with_reducible repeat (first | apply Kd.R_alloc | apply Kd.R_drewN | apply Kd.R_drew)); exact (Kd.R_mono (Kd.R_far (p := ⟨gb357, 2, none⟩) (Kd.R_far (p := ⟨gb357, 1, none⟩) (Kd.R_far (p := ⟨gb357, 0, none⟩) (Kd.R_types HO347.out BK357.out (by decide)) (fun _ hk => hk.2) (.slice Ao12 t350.length co12)) (fun _ hk => hk.2) (.int .i64 t353)) (fun _ hk => hk.2) (.int .i64 t354)) (fun _ h_ => h_.1))))) (Kd.R_lt (by (with_reducible repeat (first | apply Kd.R_alloc | apply Kd.R_drewN | apply Kd.R_drew)); exact (Kd.R_mono (Kd.R_far (p := ⟨gb357, 2, none⟩) (Kd.R_far (p := ⟨gb357, 1, none⟩) (Kd.R_far (p := ⟨gb357, 0, none⟩) (Kd.R_types HO352.out BK357.out (by decide)) (fun _ hk => hk.2) (.slice Ao12 t350.length co12)) (fun _ hk => hk.2) (.int .i64 t353)) (fun _ hk => hk.2) (.int .i64 t354)) (fun _ h_ => h_.1))))) (below_size (by repeat (first | (with_reducible first | exact HB.out | apply below_alloc | apply pw_below_drewN | apply below_drew1 | refine below_set ?_ GE357.out) | exact HB.out)))); have n3_ := Aside0.mk (blk_below (g := gb357) (o := .cells #[.slice Ao12 t350.length co12, .int .i64 t353, .int .i64 t354] 24 (0, 0)) (by (with_reducible repeat (first | refine blk_drewN ?_ _ | refine blk_drew ?_ | refine blk_alloc ?_ _)); refine blk_put (cs := #[.slice Ao12 t350.length co12, .int .i64 t353, .int .i64 0]) ?_ 2 _ rfl; (with_reducible repeat (first | refine blk_drewN ?_ _ | refine blk_drew ?_ | refine blk_alloc ?_ _)); refine blk_put (cs := #[.slice Ao12 t350.length co12, .int .i64 0, .int .i64 0]) ?_ 1 _ rfl; (with_reducible repeat (first | refine blk_drewN ?_ _ | refine blk_drew ?_ | refine blk_alloc ?_ _)); refine blk_put (cs := #[.slice none 0 0, .int .i64 0, .int .i64 0]) ?_ 0 _ rfl; (with_reducible repeat (first | refine blk_drewN ?_ _ | refine blk_drew ?_ | refine blk_alloc ?_ _)); exact BK357.out) hb); have n4_ := Aside0.mk (below_step (by repeat (first | (with_reducible first | exact HB.out | apply below_alloc | apply pw_below_drewN | apply below_drew1 | refine below_set ?_ GE357.out) | exact HB.out)) hb); clear HO347; clear HO352; clear BK357; clear HB; have HO347 := n0_; have HO352 := n1_; have HO360 := n2_; have BK357 := n3_; have HB := n4_; clear n0_ n1_ n2_ n3_ n4_; (try clear hb); (try clear hb2); (try clear hk); (try clear hi); (try clear ho0); obtain ⟨Ao15, co15, eo15⟩ := Kd.R_slice HO360.out; subst eo15) | ((with_reducible refine gate_callee (f := 11) rfl ?_); refine goesL_ (some 18) rfl rfl Try.func11 (by kernel_rfl) rfl #[.agg #[.slice Ao15 t358.length co15, .int .i64 t361, .int .i64 t362], .int .i64 7, .int .i64 4] rfl (by (try simp only [List.map_toArray, List.map_cons, List.map_nil]); first | done | rfl | (simp only [List.length_drop, List.length_take]; rfl)) ?_; (with_reducible refine (key_Present.calls k _ _ t358 t361 t362 7 4 t363 t366 t367 t368 t369 _ ?side1 ?side2 A4.out).mono ?_); (case side1 => repeat (first | exact (Kd.R_reads' HO360.out).2.2 | (with_reducible refine Kd.C_alloc ?_ _) | (with_reducible refine Kd.C_drewN ?_ _) | (with_reducible refine Kd.C_drew ?_))); (case side2 => exact (Kd.R_reads' HO360.out).2.1); rintro e w16 ⟨v364, rfl, ho0, hb⟩; refine ⟨_, rfl, ?_⟩; have n0_ := Aside0.mk (Kd.R_elder' (by (with_reducible repeat (first | apply Kd.R_alloc | apply Kd.R_drewN | apply Kd.R_drew)); exact HO347.out) (Kd.R_base ho0) hb); have n1_ := Aside0.mk (Kd.R_elder' (by (with_reducible repeat (first | apply Kd.R_alloc | apply Kd.R_drewN | apply Kd.R_drew)); exact HO352.out) (Kd.R_base ho0) hb); have n2_ := Aside0.mk (Kd.R_elder' (by (with_reducible repeat (first | apply Kd.R_alloc | apply Kd.R_drewN | apply Kd.R_drew)); exact HO360.out) (Kd.R_base ho0) hb); have n3_ := Aside0.mk (Kd.R_lower (Kd.R_new' (Kd.R_new' (Kd.R_new' ho0 (Kd.R_lt (by (with_reducible repeat (first | apply Kd.R_alloc | apply Kd.R_drewN | apply Kd.R_drew)); exact HO347.out))) (Kd.R_lt (by (with_reducible repeat (first | apply Kd.R_alloc | apply Kd.R_drewN | apply Kd.R_drew)); exact HO352.out))) (Kd.R_lt (by (with_reducible repeat (first | apply Kd.R_alloc | apply Kd.R_drewN | apply Kd.R_drew)); exact HO360.out))) (below_size (by repeat (first | (with_reducible first | exact HB.out | apply below_alloc | apply pw_below_drewN | apply below_drew1 | refine below_set ?_ GE357.out) | exact HB.out)))); have n4_ := Aside0.mk (blk_below (g := gb357) (o := .cells #[.slice Ao12 t350.length co12, .int .i64 t353, .int .i64 t354] 24 (0, 0)) (by (with_reducible repeat (first | refine blk_drewN ?_ _ | refine blk_drew ?_ | refine blk_alloc ?_ _)); exact BK357.out) hb); have n5_ := Aside0.mk (below_step (by repeat (first | (with_reducible first | exact HB.out | apply below_alloc | apply pw_below_drewN | apply below_drew1 | refine below_set ?_ GE357.out) | exact HB.out)) hb); clear HO347; clear HO352; clear HO360; clear BK357; clear HB; have HO347 := n0_; have HO352 := n1_; have HO360 := n2_; have HO365 := n3_; have BK357 := n4_; have HB := n5_; clear n0_ n1_ n2_ n3_ n4_ n5_; (try clear hb); (try clear hb2); (try clear hk); (try clear hi); (try clear ho0)) | ((with_reducible refine gate_dst (N := 4) rfl ?_); refine box_event ?hg (N := 4) ?hd (cs := #[.slice none 0 0, .int .i64 0, .int .i64 0]) (t := 24) ?hr ?_; (case hd => rfl); (case hg => rfl); (case hr => first | (go_simp; done) | (go_simp; rfl)); intro gb370 hg w17 hbox hb; have n0_ := Aside0.mk (Kd.R_below (by (with_reducible repeat (first | apply Kd.R_alloc | apply Kd.R_drewN | apply Kd.R_drew)); exact HO347.out) hb); have n1_ := Aside0.mk (Kd.R_below (by (with_reducible repeat (first | apply Kd.R_alloc | apply Kd.R_drewN | apply Kd.R_drew)); exact HO352.out) hb); have n2_ := Aside0.mk (Kd.R_below (by (with_reducible repeat (first | apply Kd.R_alloc | apply Kd.R_drewN | apply Kd.R_drew)); exact HO360.out) hb); have n3_ := Aside0.mk (Kd.R_below (by (with_reducible repeat (first | apply Kd.R_alloc | apply Kd.R_drewN | apply Kd.R_drew)); exact HO365.out) hb); have n4_ := Aside0.mk (blk_below (g := gb357) (o := .cells #[.slice Ao12 t350.length co12, .int .i64 t353, .int .i64 t354] 24 (0, 0)) (by (with_reducible repeat (first | refine blk_drewN ?_ _ | refine blk_drew ?_ | refine blk_alloc ?_ _)); exact BK357.out) hb); have n5_ := Aside0.mk (below_step (by repeat (first | (with_reducible first | exact HB.out | apply below_alloc | apply pw_below_drewN | apply below_drew1 | refine below_set ?_ GE357.out) | exact HB.out)) hb); have n6_ := Aside0.mk (hbox); have n7_ := Aside0.mk ((by rw [hg]; exact (below_size (by repeat (first | (with_reducible first | exact HB.out | apply below_alloc | apply pw_below_drewN | apply below_drew1 | refine below_set ?_ GE357.out) | exact HB.out))) : w.heap.size ≤ gb370)); have n8_ := Aside0.mk ((by rw [hg]; exact (below_size (by repeat (first | (with_reducible first | exact HB.out | apply below_alloc | apply pw_below_drewN | apply below_drew1 | refine below_set ?_ GE357.out) | exact HB.out))) : w.heap.size ≤ gb370)); have n9_ := Aside0.mk ((by rw [hg]; exact Nat.ne_of_lt (blk_lt (g := gb357) (o := .cells #[.slice Ao12 t350.length co12, .int .i64 t353, .int .i64 t354] 24 (0, 0)) (by (with_reducible repeat (first | refine blk_drewN ?_ _ | refine blk_drew ?_ | refine blk_alloc ?_ _)); exact BK357.out)) : gb357 ≠ gb370)); have n10_ := Aside0.mk ((by rw [hg]; exact Nat.ne_of_gt (blk_lt (g := gb357) (o := .cells #[.slice Ao12 t350.length co12, .int .i64 t353, .int .i64 t354] 24 (0, 0)) (by (with_reducible repeat (first | refine blk_drewN ?_ _ | refine blk_drew ?_ | refine blk_alloc ?_ _)); exact BK357.out)) : gb370 ≠ gb357)); clear HO347; clear HO352; clear HO360; clear HO365; clear BK357; clear HB; have HO347 := n0_; have HO352 := n1_; have HO360 := n2_; have HO365 := n3_; have BK357 := n4_; have HB := n5_; have BK370 := n6_; have GW370 := n7_; have GE370 := n8_; have NB357_370 := n9_; have NB370_357 := n10_; clear n0_ n1_ n2_ n3_ n4_ n5_ n6_ n7_ n8_ n9_ n10_; clear hb hbox hg; obtain ⟨Ao18, co18, eo18⟩ := Kd.R_slice HO365.out; subst eo18; have hnb19 := NB370_357.out; have hnc19 := NB357_370.out; have hcz20_0 : w17.cell? ⟨gb370, 0, none⟩ = some (.slice none 0 0) := (blk_cell BK370.out 0).trans rfl; have hcz20_1 : w17.cell? ⟨gb370, 1, none⟩ = some (.int .i64 0) := (blk_cell BK370.out 1).trans rfl; have hcz20_2 : w17.cell? ⟨gb370, 2, none⟩ = some (.int .i64 0) := (blk_cell BK370.out 2).trans rfl; have hfz20_0 := blk_frozen BK370.out 0; have hfz20_1 := blk_frozen BK370.out 1; have hfz20_2 := blk_frozen BK370.out 2) | ((with_reducible refine gate_callee (f := 21) rfl ?_); refine goesL_ (some 23) rfl rfl Try.func21 (by kernel_rfl) rfl #[.int .i64 5] rfl (by (try simp only [List.map_toArray, List.map_cons, List.map_nil]); first | done | rfl | (simp only [List.length_drop, List.length_take]; rfl)) ?_; (with_reducible refine (L22_state.calls 5 t371 t374 t375 _ A5.out).mono ?_); rintro e w21 ⟨v372, rfl, ho0, hb⟩; refine ⟨_, rfl, ?_⟩; have n0_ := Aside0.mk (Kd.R_elder' (by (with_reducible repeat (first | apply Kd.R_alloc | apply Kd.R_drewN | apply Kd.R_drew)); exact (Kd.R_mono (Kd.R_far (p := ⟨gb370, 2, none⟩) (Kd.R_far (p := ⟨gb370, 1, none⟩) (Kd.R_far (p := ⟨gb370, 0, none⟩) (Kd.R_types HO347.out BK370.out (by decide)) (fun _ hk => hk.2) (.slice Ao18 t363.length co18)) (fun _ hk => hk.2) (.int .i64 t366)) (fun _ hk => hk.2) (.int .i64 t367)) (fun _ h_ => h_.1))) (Kd.R_base ho0) hb); have n1_ := Aside0.mk (Kd.R_elder' (by (with_reducible repeat (first | apply Kd.R_alloc | apply Kd.R_drewN | apply Kd.R_drew)); exact (Kd.R_mono (Kd.R_far (p := ⟨gb370, 2, none⟩) (Kd.R_far (p := ⟨gb370, 1, none⟩) (Kd.R_far (p := ⟨gb370, 0, none⟩) (Kd.R_types HO352.out BK370.out (by decide)) (fun _ hk => hk.2) (.slice Ao18 t363.length co18)) (fun _ hk => hk.2) (.int .i64 t366)) (fun _ hk => hk.2) (.int .i64 t367)) (fun _ h_ => h_.1))) (Kd.R_base ho0) hb); have n2_ := Aside0.mk (Kd.R_elder' (by (with_reducible repeat (first | apply Kd.R_alloc | apply Kd.R_drewN | apply Kd.R_drew)); exact (Kd.R_mono (Kd.R_far (p := ⟨gb370, 2, none⟩) (Kd.R_far (p := ⟨gb370, 1, none⟩) (Kd.R_far (p := ⟨gb370, 0, none⟩) (Kd.R_types HO360.out BK370.out (by decide)) (fun _ hk => hk.2) (.slice Ao18 t363.length co18)) (fun _ hk => hk.2) (.int .i64 t366)) (fun _ hk => hk.2) (.int .i64 t367)) (fun _ h_ => h_.1))) (Kd.R_base ho0) hb); have n3_ := Aside0.mk (Kd.R_elder' (by (with_reducible repeat (first | apply Kd.R_alloc | apply Kd.R_drewN | apply Kd.R_drew)); exact (Kd.R_mono (Kd.R_far (p := ⟨gb370, 2, none⟩) (Kd.R_far (p := ⟨gb370, 1, none⟩) (Kd.R_far (p := ⟨gb370, 0, none⟩) (Kd.R_types HO365.out BK370.out (by decide)) (fun _ hk => hk.2) (.slice Ao18 t363.length co18)) (fun _ hk => hk.2) (.int .i64 t366)) (fun _ hk => hk.2) (.int .i64 t367)) (fun _ h_ => h_.1))) (Kd.R_base ho0) hb); have n4_ := Aside0.mk (Kd.R_lower (Kd.R_new' (Kd.R_new' (Kd.R_new' (Kd.R_new' ho0 (Kd.R_lt (by (with_reducible repeat (first | apply Kd.R_alloc | apply Kd.R_drewN | apply Kd.R_drew)); exact (Kd.R_mono (Kd.R_far (p := ⟨gb370, 2, none⟩) (Kd.R_far (p := ⟨gb370, 1, none⟩) (Kd.R_far (p := ⟨gb370, 0, none⟩) (Kd.R_types HO347.out BK370.out (by decide)) (fun _ hk => hk.2) (.slice Ao18 t363.length co18)) (fun _ hk => hk.2) (.int .i64 t366)) (fun _ hk => hk.2) (.int .i64 t367)) (fun _ h_ => h_.1))))) (Kd.R_lt (by (with_reducible repeat (first | apply Kd.R_alloc | apply Kd.R_drewN | apply Kd.R_drew)); exact (Kd.R_mono (Kd.R_far (p := ⟨gb370, 2, none⟩) (Kd.R_far (p := ⟨gb370, 1, none⟩) (Kd.R_far (p := ⟨gb370, 0, none⟩) (Kd.R_types HO352.out BK370.out (by decide)) (fun _ hk => hk.2) (.slice Ao18 t363.length co18)) (fun _ hk => hk.2) (.int .i64 t366)) (fun _ hk => hk.2) (.int .i64 t367)) (fun _ h_ => h_.1))))) (Kd.R_lt (by (with_reducible repeat (first | apply Kd.R_alloc | apply Kd.R_drewN | apply Kd.R_drew)); exact (Kd.R_mono (Kd.R_far (p := ⟨gb370, 2, none⟩) (Kd.R_far (p := ⟨gb370, 1, none⟩) (Kd.R_far (p := ⟨gb370, 0, none⟩) (Kd.R_types HO360.out BK370.out (by decide)) (fun _ hk => hk.2) (.slice Ao18 t363.length co18)) (fun _ hk => hk.2) (.int .i64 t366)) (fun _ hk => hk.2) (.int .i64 t367)) (fun _ h_ => h_.1))))) (Kd.R_lt (by (with_reducible repeat (first | apply Kd.R_alloc | apply Kd.R_drewN | apply Kd.R_drew)); exact (Kd.R_mono (Kd.R_far (p := ⟨gb370, 2, none⟩) (Kd.R_far (p := ⟨gb370, 1, none⟩) (Kd.R_far (p := ⟨gb370, 0, none⟩) (Kd.R_types HO365.out BK370.out (by decide)) (fun _ hk => hk.2) (.slice Ao18 t363.length co18)) (fun _ hk => hk.2) (.int .i64 t366)) (fun _ hk => hk.2) (.int .i64 t367)) (fun _ h_ => h_.1))))) (below_size (by repeat (first | (with_reducible first | exact HB.out | apply below_alloc | apply pw_below_drewN | apply below_drew1 | refine below_set ?_ GE357.out | refine below_set ?_ GE370.out) | exact HB.out)))); have n5_ := Aside0.mk (blk_below (g := gb357) (o := .cells #[.slice Ao12 t350.length co12, .int .i64 t353, .int .i64 t354] 24 (0, 0)) (by (with_reducible repeat (first | refine blk_drewN ?_ _ | refine blk_drew ?_ | refine blk_alloc ?_ _)); refine blk_far ?_ NB357_370.out _; (with_reducible repeat (first | refine blk_drewN ?_ _ | refine blk_drew ?_ | refine blk_alloc ?_ _)); refine blk_far ?_ NB357_370.out _; (with_reducible repeat (first | refine blk_drewN ?_ _ | refine blk_drew ?_ | refine blk_alloc ?_ _)); refine blk_far ?_ NB357_370.out _; (with_reducible repeat (first | refine blk_drewN ?_ _ | refine blk_drew ?_ | refine blk_alloc ?_ _)); exact BK357.out) hb); have n6_ := Aside0.mk (blk_below (g := gb370) (o := .cells #[.slice Ao18 t363.length co18, .int .i64 t366, .int .i64 t367] 24 (0, 0)) (by (with_reducible repeat (first | refine blk_drewN ?_ _ | refine blk_drew ?_ | refine blk_alloc ?_ _)); refine blk_put (cs := #[.slice Ao18 t363.length co18, .int .i64 t366, .int .i64 0]) ?_ 2 _ rfl; (with_reducible repeat (first | refine blk_drewN ?_ _ | refine blk_drew ?_ | refine blk_alloc ?_ _)); refine blk_put (cs := #[.slice Ao18 t363.length co18, .int .i64 0, .int .i64 0]) ?_ 1 _ rfl; (with_reducible repeat (first | refine blk_drewN ?_ _ | refine blk_drew ?_ | refine blk_alloc ?_ _)); refine blk_put (cs := #[.slice none 0 0, .int .i64 0, .int .i64 0]) ?_ 0 _ rfl; (with_reducible repeat (first | refine blk_drewN ?_ _ | refine blk_drew ?_ | refine blk_alloc ?_ _)); exact BK370.out) hb); have n7_ := Aside0.mk (below_step (by repeat (first | (with_reducible first | exact HB.out | apply below_alloc | apply pw_below_drewN | apply below_drew1 | refine below_set ?_ GE357.out | refine below_set ?_ GE370.out) | exact HB.out)) hb); clear HO347; clear HO352; clear HO360; clear HO365; clear BK357; clear BK370; clear HB; have HO347 := n0_; have HO352 := n1_; have HO360 := n2_; have HO365 := n3_; have HO373 := n4_; have BK357 := n5_; have BK370 := n6_; have HB := n7_; clear n0_ n1_ n2_ n3_ n4_ n5_ n6_ n7_; (try clear hb); (try clear hb2); (try clear hk); (try clear hi); (try clear ho0); obtain ⟨Ao22, co22, eo22⟩ := Kd.R_slice HO373.out; subst eo22) | ((with_reducible refine gate_callee (f := 11) rfl ?_); refine goesL_ (some 24) rfl rfl Try.func11 (by kernel_rfl) rfl #[.agg #[.slice Ao22 t371.length co22, .int .i64 t374, .int .i64 t375], .int .i64 7, .int .i64 5] rfl (by (try simp only [List.map_toArray, List.map_cons, List.map_nil]); first | done | rfl | (simp only [List.length_drop, List.length_take]; rfl)) ?_; (with_reducible refine (key_Present.calls k _ _ t371 t374 t375 7 5 t376 t379 t380 t381 t382 _ ?side1 ?side2 A6.out).mono ?_); (case side1 => repeat (first | exact (Kd.R_reads' HO373.out).2.2 | (with_reducible refine Kd.C_alloc ?_ _) | (with_reducible refine Kd.C_drewN ?_ _) | (with_reducible refine Kd.C_drew ?_))); (case side2 => exact (Kd.R_reads' HO373.out).2.1); rintro e w23 ⟨v377, rfl, ho0, hb⟩; refine ⟨_, rfl, ?_⟩; have n0_ := Aside0.mk (Kd.R_elder' (by (with_reducible repeat (first | apply Kd.R_alloc | apply Kd.R_drewN | apply Kd.R_drew)); exact HO347.out) (Kd.R_base ho0) hb); have n1_ := Aside0.mk (Kd.R_elder' (by (with_reducible repeat (first | apply Kd.R_alloc | apply Kd.R_drewN | apply Kd.R_drew)); exact HO352.out) (Kd.R_base ho0) hb); have n2_ := Aside0.mk (Kd.R_elder' (by (with_reducible repeat (first | apply Kd.R_alloc | apply Kd.R_drewN | apply Kd.R_drew)); exact HO360.out) (Kd.R_base ho0) hb); have n3_ := Aside0.mk (Kd.R_elder' (by (with_reducible repeat (first | apply Kd.R_alloc | apply Kd.R_drewN | apply Kd.R_drew)); exact HO365.out) (Kd.R_base ho0) hb); have n4_ := Aside0.mk (Kd.R_elder' (by (with_reducible repeat (first | apply Kd.R_alloc | apply Kd.R_drewN | apply Kd.R_drew)); exact HO373.out) (Kd.R_base ho0) hb); have n5_ := Aside0.mk (Kd.R_lower (Kd.R_new' (Kd.R_new' (Kd.R_new' (Kd.R_new' (Kd.R_new' ho0 (Kd.R_lt (by (with_reducible repeat (first | apply Kd.R_alloc | apply Kd.R_drewN | apply Kd.R_drew)); exact HO347.out))) (Kd.R_lt (by (with_reducible repeat (first | apply Kd.R_alloc | apply Kd.R_drewN | apply Kd.R_drew)); exact HO352.out))) (Kd.R_lt (by (with_reducible repeat (first | apply Kd.R_alloc | apply Kd.R_drewN | apply Kd.R_drew)); exact HO360.out))) (Kd.R_lt (by (with_reducible repeat (first | apply Kd.R_alloc | apply Kd.R_drewN | apply Kd.R_drew)); exact HO365.out))) (Kd.R_lt (by (with_reducible repeat (first | apply Kd.R_alloc | apply Kd.R_drewN | apply Kd.R_drew)); exact HO373.out))) (below_size (by repeat (first | (with_reducible first | exact HB.out | apply below_alloc | apply pw_below_drewN | apply below_drew1 | refine below_set ?_ GE357.out | refine below_set ?_ GE370.out) | exact HB.out)))); have n6_ := Aside0.mk (blk_below (g := gb357) (o := .cells #[.slice Ao12 t350.length co12, .int .i64 t353, .int .i64 t354] 24 (0, 0)) (by (with_reducible repeat (first | refine blk_drewN ?_ _ | refine blk_drew ?_ | refine blk_alloc ?_ _)); exact BK357.out) hb); have n7_ := Aside0.mk (blk_below (g := gb370) (o := .cells #[.slice Ao18 t363.length co18, .int .i64 t366, .int .i64 t367] 24 (0, 0)) (by (with_reducible repeat (first | refine blk_drewN ?_ _ | refine blk_drew ?_ | refine blk_alloc ?_ _)); exact BK370.out) hb); have n8_ := Aside0.mk (below_step (by repeat (first | (with_reducible first | exact HB.out | apply below_alloc | apply pw_below_drewN | apply below_drew1 | refine below_set ?_ GE357.out | refine below_set ?_ GE370.out) | exact HB.out)) hb); clear HO347; clear HO352; clear HO360; clear HO365; clear HO373; clear BK357; clear BK370; clear HB; have HO347 := n0_; have HO352 := n1_; have HO360 := n2_; have HO365 := n3_; have HO373 := n4_; have HO378 := n5_; have BK357 := n6_; have BK370 := n7_; have HB := n8_; clear n0_ n1_ n2_ n3_ n4_ n5_ n6_ n7_ n8_; (try clear hb); (try clear hb2); (try clear hk); (try clear hi); (try clear ho0)) | ((with_reducible refine gate_dst (N := 7) rfl ?_); refine box_event ?hg (N := 7) ?hd (cs := #[.slice none 0 0, .int .i64 0, .int .i64 0]) (t := 24) ?hr ?_; (case hd => rfl); (case hg => rfl); (case hr => first | (go_simp; done) | (go_simp; rfl)); intro gb383 hg w24 hbox hb; have n0_ := Aside0.mk (Kd.R_below (by (with_reducible repeat (first | apply Kd.R_alloc | apply Kd.R_drewN | apply Kd.R_drew)); exact HO347.out) hb); have n1_ := Aside0.mk (Kd.R_below (by (with_reducible repeat (first | apply Kd.R_alloc | apply Kd.R_drewN | apply Kd.R_drew)); exact HO352.out) hb); have n2_ := Aside0.mk (Kd.R_below (by (with_reducible repeat (first | apply Kd.R_alloc | apply Kd.R_drewN | apply Kd.R_drew)); exact HO360.out) hb); have n3_ := Aside0.mk (Kd.R_below (by (with_reducible repeat (first | apply Kd.R_alloc | apply Kd.R_drewN | apply Kd.R_drew)); exact HO365.out) hb); have n4_ := Aside0.mk (Kd.R_below (by (with_reducible repeat (first | apply Kd.R_alloc | apply Kd.R_drewN | apply Kd.R_drew)); exact HO373.out) hb); have n5_ := Aside0.mk (Kd.R_below (by (with_reducible repeat (first | apply Kd.R_alloc | apply Kd.R_drewN | apply Kd.R_drew)); exact HO378.out) hb); have n6_ := Aside0.mk (blk_below (g := gb357) (o := .cells #[.slice Ao12 t350.length co12, .int .i64 t353, .int .i64 t354] 24 (0, 0)) (by (with_reducible repeat (first | refine blk_drewN ?_ _ | refine blk_drew ?_ | refine blk_alloc ?_ _)); exact BK357.out) hb); have n7_ := Aside0.mk (blk_below (g := gb370) (o := .cells #[.slice Ao18 t363.length co18, .int .i64 t366, .int .i64 t367] 24 (0, 0)) (by (with_reducible repeat (first | refine blk_drewN ?_ _ | refine blk_drew ?_ | refine blk_alloc ?_ _)); exact BK370.out) hb); have n8_ := Aside0.mk (below_step (by repeat (first | (with_reducible first | exact HB.out | apply below_alloc | apply pw_below_drewN | apply below_drew1 | refine below_set ?_ GE357.out | refine below_set ?_ GE370.out) | exact HB.out)) hb); have n9_ := Aside0.mk (hbox); have n10_ := Aside0.mk ((by rw [hg]; exact (below_size (by repeat (first | (with_reducible first | exact HB.out | apply below_alloc | apply pw_below_drewN | apply below_drew1 | refine below_set ?_ GE357.out | refine below_set ?_ GE370.out) | exact HB.out))) : w.heap.size ≤ gb383)); have n11_ := Aside0.mk ((by rw [hg]; exact (below_size (by repeat (first | (with_reducible first | exact HB.out | apply below_alloc | apply pw_below_drewN | apply below_drew1 | refine below_set ?_ GE357.out | refine below_set ?_ GE370.out) | exact HB.out))) : w.heap.size ≤ gb383)); have n12_ := Aside0.mk ((by rw [hg]; exact Nat.ne_of_lt (blk_lt (g := gb357) (o := .cells #[.slice Ao12 t350.length co12, .int .i64 t353, .int .i64 t354] 24 (0, 0)) (by (with_reducible repeat (first | refine blk_drewN ?_ _ | refine blk_drew ?_ | refine blk_alloc ?_ _)); exact BK357.out)) : gb357 ≠ gb383)); have n13_ := Aside0.mk ((by rw [hg]; exact Nat.ne_of_gt (blk_lt (g := gb357) (o := .cells #[.slice Ao12 t350.length co12, .int .i64 t353, .int .i64 t354] 24 (0, 0)) (by (with_reducible repeat (first | refine blk_drewN ?_ _ | refine blk_drew ?_ | refine blk_alloc ?_ _)); exact BK357.out)) : gb383 ≠ gb357)); have n14_ := Aside0.mk ((by rw [hg]; exact Nat.ne_of_lt (blk_lt (g := gb370) (o := .cells #[.slice Ao18 t363.length co18, .int .i64 t366, .int .i64 t367] 24 (0, 0)) (by (with_reducible repeat (first | refine blk_drewN ?_ _ | refine blk_drew ?_ | refine blk_alloc ?_ _)); exact BK370.out)) : gb370 ≠ gb383)); have n15_ := Aside0.mk ((by rw [hg]; exact Nat.ne_of_gt (blk_lt (g := gb370) (o := .cells #[.slice Ao18 t363.length co18, .int .i64 t366, .int .i64 t367] 24 (0, 0)) (by (with_reducible repeat (first | refine blk_drewN ?_ _ | refine blk_drew ?_ | refine blk_alloc ?_ _)); exact BK370.out)) : gb383 ≠ gb370)); clear HO347; clear HO352; clear HO360; clear HO365; clear HO373; clear HO378; clear BK357; clear BK370; clear HB; have HO347 := n0_; have HO352 := n1_; have HO360 := n2_; have HO365 := n3_; have HO373 := n4_; have HO378 := n5_; have BK357 := n6_; have BK370 := n7_; have HB := n8_; have BK383 := n9_; have GW383 := n10_; have GE383 := n11_; have NB357_383 := n12_; have NB383_357 := n13_; have NB370_383 := n14_; have NB383_370 := n15_; clear n0_ n1_ n2_ n3_ n4_ n5_ n6_ n7_ n8_ n9_ n10_ n11_ n12_ n13_ n14_ n15_; clear hb hbox hg; obtain ⟨Ao25, co25, eo25⟩ := Kd.R_slice HO378.out; subst eo25; have hnb26 := NB383_357.out; have hnc26 := NB357_383.out; have hnb27 := NB383_370.out; have hnc27 := NB370_383.out; have hcz28_0 : w24.cell? ⟨gb383, 0, none⟩ = some (.slice none 0 0) := (blk_cell BK383.out 0).trans rfl; have hcz28_1 : w24.cell? ⟨gb383, 1, none⟩ = some (.int .i64 0) := (blk_cell BK383.out 1).trans rfl; have hcz28_2 : w24.cell? ⟨gb383, 2, none⟩ = some (.int .i64 0) := (blk_cell BK383.out 2).trans rfl; have hfz28_0 := blk_frozen BK383.out 0; have hfz28_1 := blk_frozen BK383.out 1; have hfz28_2 := blk_frozen BK383.out 2))
  (try simp only [Act.put, List.setIfInBounds_toArray, List.set_cons_zero, List.set_cons_succ])
  go_cut [80] (fun v80 wc => ∃ (kq : Nat) (x80_6 : Bool), v80 = .bool x80_6 ∧ Aside0 (L22_KeyKnown.j0 kq x80_6 = some true) ∧ Aside0 (kq ≤ k) ∧ Aside0 (Kd.R (Kd.int .i64) 3 wc w.heap.size (fun k_ => some k_ ≠ ((.slice Ao18 t363.length co18) : Value).ownBlock ∧ some k_ ≠ ((.slice Ao25 t376.length co25) : Value).ownBlock) (.slice Ao12 t350.length co12) t350) ∧ Aside0 (Kd.R (Kd.int .i64) 3 wc w.heap.size (fun k_ => some k_ ≠ ((.slice Ao12 t350.length co12) : Value).ownBlock ∧ some k_ ≠ ((.slice Ao25 t376.length co25) : Value).ownBlock) (.slice Ao18 t363.length co18) t363) ∧ Aside0 (Kd.R (Kd.int .i64) 3 wc w.heap.size (fun k_ => some k_ ≠ ((.slice Ao12 t350.length co12) : Value).ownBlock ∧ some k_ ≠ ((.slice Ao18 t363.length co18) : Value).ownBlock) (.slice Ao25 t376.length co25) t376) ∧ Aside0 (wc.heap[gb357]? = some (.cells #[(.slice Ao12 t350.length co12), .int .i64 t353, .int .i64 t354] 24 (0, 0))) ∧ Aside0 (wc.heap[gb370]? = some (.cells #[(.slice Ao18 t363.length co18), .int .i64 t366, .int .i64 t367] 24 (0, 0))) ∧ Aside0 (wc.heap[gb383]? = some (.cells #[(.slice Ao25 t376.length co25), .int .i64 t379, .int .i64 t380] 24 (0, 0))) ∧ Aside0 (Below w.heap.size w wc))
  case first =>
    have H := HC7.out
    clear HC7
    replace H := Option.bind_eq_some_iff.mp H
    obtain ⟨⟨t384, t387, t388⟩, A290, H⟩ := H
    replace H : ((L22_same.f k t350 t353 t354 t384 t387 t388).bind fun t389 => (if t389 = true then (if t355 = true then (L22_KeyKnown.j0 k true) else (if t356 = 0 then (if t369 = 8 then ((L22_state.f 5).bind fun bt390 => ((L22_same.f k t376 t379 t380 bt390.1 bt390.2.1 bt390.2.2).bind fun t395 => (if t395 = true then (if t381 = true then (if t382 = 0 then ((L22_left.f k 4 0).bind fun t396 => (if t396 = true then ((L22_left.f k 5 10).bind fun t397 => (if t397 = true then ((L22_left.f k 15 0).bind fun t398 => (if t398 = true then ((L22_covers.f 5 22 true).bind fun t399 => (if t399 = true then ((L22_covers.f 5 23 false).bind fun t400 => (if t400 = true then ((L22_covers.f 22 22 true).bind fun t401 => (L22_KeyKnown.j0 k (!t401))) else (L22_KeyKnown.j0 k true))) else (L22_KeyKnown.j0 k true))) else (L22_KeyKnown.j0 k true))) else (L22_KeyKnown.j0 k true))) else (L22_KeyKnown.j0 k true))) else (L22_KeyKnown.j0 k true)) else (L22_KeyKnown.j0 k true)) else (L22_KeyKnown.j0 k true)))) else (L22_KeyKnown.j0 k true)) else (L22_KeyKnown.j0 k true))) else (L22_KeyKnown.j0 k true))) = some true := H
    have A29 := Aside0.mk A290
    clear A290
    replace H := Option.bind_eq_some_iff.mp H
    obtain ⟨t389, A300, H⟩ := H
    replace H : (if t389 = true then (if t355 = true then (L22_KeyKnown.j0 k true) else (if t356 = 0 then (if t369 = 8 then ((L22_state.f 5).bind fun bt390 => ((L22_same.f k t376 t379 t380 bt390.1 bt390.2.1 bt390.2.2).bind fun t395 => (if t395 = true then (if t381 = true then (if t382 = 0 then ((L22_left.f k 4 0).bind fun t396 => (if t396 = true then ((L22_left.f k 5 10).bind fun t397 => (if t397 = true then ((L22_left.f k 15 0).bind fun t398 => (if t398 = true then ((L22_covers.f 5 22 true).bind fun t399 => (if t399 = true then ((L22_covers.f 5 23 false).bind fun t400 => (if t400 = true then ((L22_covers.f 22 22 true).bind fun t401 => (L22_KeyKnown.j0 k (!t401))) else (L22_KeyKnown.j0 k true))) else (L22_KeyKnown.j0 k true))) else (L22_KeyKnown.j0 k true))) else (L22_KeyKnown.j0 k true))) else (L22_KeyKnown.j0 k true))) else (L22_KeyKnown.j0 k true)) else (L22_KeyKnown.j0 k true)) else (L22_KeyKnown.j0 k true)))) else (L22_KeyKnown.j0 k true)) else (L22_KeyKnown.j0 k true))) else (L22_KeyKnown.j0 k true)) = some true := H
    have A30 := Aside0.mk A300
    clear A300
    by_cases c31 : t389 = true
    · subst c31
      have H1 : (if t355 = true then (L22_KeyKnown.j0 k true) else (if t356 = 0 then (if t369 = 8 then ((L22_state.f 5).bind fun bt390 => ((L22_same.f k t376 t379 t380 bt390.1 bt390.2.1 bt390.2.2).bind fun t395 => (if t395 = true then (if t381 = true then (if t382 = 0 then ((L22_left.f k 4 0).bind fun t396 => (if t396 = true then ((L22_left.f k 5 10).bind fun t397 => (if t397 = true then ((L22_left.f k 15 0).bind fun t398 => (if t398 = true then ((L22_covers.f 5 22 true).bind fun t399 => (if t399 = true then ((L22_covers.f 5 23 false).bind fun t400 => (if t400 = true then ((L22_covers.f 22 22 true).bind fun t401 => (L22_KeyKnown.j0 k (!t401))) else (L22_KeyKnown.j0 k true))) else (L22_KeyKnown.j0 k true))) else (L22_KeyKnown.j0 k true))) else (L22_KeyKnown.j0 k true))) else (L22_KeyKnown.j0 k true))) else (L22_KeyKnown.j0 k true)) else (L22_KeyKnown.j0 k true)) else (L22_KeyKnown.j0 k true)))) else (L22_KeyKnown.j0 k true)) else (L22_KeyKnown.j0 k true))) = some true := by rw [if_pos rfl] at H; exact H
      clear H
      have H := H1
      clear H1
      by_cases c32 : t355 = true
      · subst c32
        have H1 : (L22_KeyKnown.j0 k true) = some true := by rw [if_pos rfl] at H; exact H
        clear H
        have H := H1
        clear H1
        exact absurd H (by repeat (first | exact never_none | exact never_false | refine never_ite ?_ ?_ | refine never_bind (fun _ => ?_) | exact L22_KeyKnown.j0_d80true _))
      · replace c32 := Bool.eq_false_iff.mpr c32
        subst c32
        have H1 : (if t356 = 0 then (if t369 = 8 then ((L22_state.f 5).bind fun bt390 => ((L22_same.f k t376 t379 t380 bt390.1 bt390.2.1 bt390.2.2).bind fun t395 => (if t395 = true then (if t381 = true then (if t382 = 0 then ((L22_left.f k 4 0).bind fun t396 => (if t396 = true then ((L22_left.f k 5 10).bind fun t397 => (if t397 = true then ((L22_left.f k 15 0).bind fun t398 => (if t398 = true then ((L22_covers.f 5 22 true).bind fun t399 => (if t399 = true then ((L22_covers.f 5 23 false).bind fun t400 => (if t400 = true then ((L22_covers.f 22 22 true).bind fun t401 => (L22_KeyKnown.j0 k (!t401))) else (L22_KeyKnown.j0 k true))) else (L22_KeyKnown.j0 k true))) else (L22_KeyKnown.j0 k true))) else (L22_KeyKnown.j0 k true))) else (L22_KeyKnown.j0 k true))) else (L22_KeyKnown.j0 k true)) else (L22_KeyKnown.j0 k true)) else (L22_KeyKnown.j0 k true)))) else (L22_KeyKnown.j0 k true)) else (L22_KeyKnown.j0 k true)) = some true := by rw [if_neg (show ¬ (false = true) by decide)] at H; exact H
        clear H
        have H := H1
        clear H1
        by_cases c33 : t356 = 0
        · rw [if_pos c33] at H
          have c33b0 : (t356 == 0) = true := beq_iff_eq.mpr c33
          have c33b1 : (t356 != 0) = false := bne_eq_false_iff_eq.mpr c33
          clear c33
          (first | rw [c33b0] | (simp only [i64_w, i32_w]; rw [c33b0]) | skip)
          by_cases c34 : t369 = 8
          · rw [if_pos c34] at H
            have c34b0 : (t369 == 8) = true := beq_iff_eq.mpr c34
            have c34b1 : (t369 != 8) = false := bne_eq_false_iff_eq.mpr c34
            clear c34
            replace H := Option.bind_eq_some_iff.mp H
            obtain ⟨⟨t390, t393, t394⟩, A350, H⟩ := H
            replace H : ((L22_same.f k t376 t379 t380 t390 t393 t394).bind fun t395 => (if t395 = true then (if t381 = true then (if t382 = 0 then ((L22_left.f k 4 0).bind fun t396 => (if t396 = true then ((L22_left.f k 5 10).bind fun t397 => (if t397 = true then ((L22_left.f k 15 0).bind fun t398 => (if t398 = true then ((L22_covers.f 5 22 true).bind fun t399 => (if t399 = true then ((L22_covers.f 5 23 false).bind fun t400 => (if t400 = true then ((L22_covers.f 22 22 true).bind fun t401 => (L22_KeyKnown.j0 k (!t401))) else (L22_KeyKnown.j0 k true))) else (L22_KeyKnown.j0 k true))) else (L22_KeyKnown.j0 k true))) else (L22_KeyKnown.j0 k true))) else (L22_KeyKnown.j0 k true))) else (L22_KeyKnown.j0 k true)) else (L22_KeyKnown.j0 k true)) else (L22_KeyKnown.j0 k true))) = some true := H
            have A35 := Aside0.mk A350
            clear A350
            replace H := Option.bind_eq_some_iff.mp H
            obtain ⟨t395, A360, H⟩ := H
            replace H : (if t395 = true then (if t381 = true then (if t382 = 0 then ((L22_left.f k 4 0).bind fun t396 => (if t396 = true then ((L22_left.f k 5 10).bind fun t397 => (if t397 = true then ((L22_left.f k 15 0).bind fun t398 => (if t398 = true then ((L22_covers.f 5 22 true).bind fun t399 => (if t399 = true then ((L22_covers.f 5 23 false).bind fun t400 => (if t400 = true then ((L22_covers.f 22 22 true).bind fun t401 => (L22_KeyKnown.j0 k (!t401))) else (L22_KeyKnown.j0 k true))) else (L22_KeyKnown.j0 k true))) else (L22_KeyKnown.j0 k true))) else (L22_KeyKnown.j0 k true))) else (L22_KeyKnown.j0 k true))) else (L22_KeyKnown.j0 k true)) else (L22_KeyKnown.j0 k true)) else (L22_KeyKnown.j0 k true)) = some true := H
            have A36 := Aside0.mk A360
            clear A360
            by_cases c37 : t395 = true
            · subst c37
              have H1 : (if t381 = true then (if t382 = 0 then ((L22_left.f k 4 0).bind fun t396 => (if t396 = true then ((L22_left.f k 5 10).bind fun t397 => (if t397 = true then ((L22_left.f k 15 0).bind fun t398 => (if t398 = true then ((L22_covers.f 5 22 true).bind fun t399 => (if t399 = true then ((L22_covers.f 5 23 false).bind fun t400 => (if t400 = true then ((L22_covers.f 22 22 true).bind fun t401 => (L22_KeyKnown.j0 k (!t401))) else (L22_KeyKnown.j0 k true))) else (L22_KeyKnown.j0 k true))) else (L22_KeyKnown.j0 k true))) else (L22_KeyKnown.j0 k true))) else (L22_KeyKnown.j0 k true))) else (L22_KeyKnown.j0 k true)) else (L22_KeyKnown.j0 k true)) = some true := by rw [if_pos rfl] at H; exact H
              clear H
              have H := H1
              clear H1
              by_cases c38 : t381 = true
              · subst c38
                have H1 : (if t382 = 0 then ((L22_left.f k 4 0).bind fun t396 => (if t396 = true then ((L22_left.f k 5 10).bind fun t397 => (if t397 = true then ((L22_left.f k 15 0).bind fun t398 => (if t398 = true then ((L22_covers.f 5 22 true).bind fun t399 => (if t399 = true then ((L22_covers.f 5 23 false).bind fun t400 => (if t400 = true then ((L22_covers.f 22 22 true).bind fun t401 => (L22_KeyKnown.j0 k (!t401))) else (L22_KeyKnown.j0 k true))) else (L22_KeyKnown.j0 k true))) else (L22_KeyKnown.j0 k true))) else (L22_KeyKnown.j0 k true))) else (L22_KeyKnown.j0 k true))) else (L22_KeyKnown.j0 k true)) = some true := by rw [if_pos rfl] at H; exact H
                clear H
                have H := H1
                clear H1
                by_cases c39 : t382 = 0
                · rw [if_pos c39] at H
                  have c39b0 : (t382 == 0) = true := beq_iff_eq.mpr c39
                  have c39b1 : (t382 != 0) = false := bne_eq_false_iff_eq.mpr c39
                  clear c39
                  replace H := Option.bind_eq_some_iff.mp H
                  obtain ⟨t396, A400, H⟩ := H
                  replace H : (if t396 = true then ((L22_left.f k 5 10).bind fun t397 => (if t397 = true then ((L22_left.f k 15 0).bind fun t398 => (if t398 = true then ((L22_covers.f 5 22 true).bind fun t399 => (if t399 = true then ((L22_covers.f 5 23 false).bind fun t400 => (if t400 = true then ((L22_covers.f 22 22 true).bind fun t401 => (L22_KeyKnown.j0 k (!t401))) else (L22_KeyKnown.j0 k true))) else (L22_KeyKnown.j0 k true))) else (L22_KeyKnown.j0 k true))) else (L22_KeyKnown.j0 k true))) else (L22_KeyKnown.j0 k true)) = some true := H
                  have A40 := Aside0.mk A400
                  clear A400
                  by_cases c41 : t396 = true
                  · subst c41
                    have H1 : ((L22_left.f k 5 10).bind fun t397 => (if t397 = true then ((L22_left.f k 15 0).bind fun t398 => (if t398 = true then ((L22_covers.f 5 22 true).bind fun t399 => (if t399 = true then ((L22_covers.f 5 23 false).bind fun t400 => (if t400 = true then ((L22_covers.f 22 22 true).bind fun t401 => (L22_KeyKnown.j0 k (!t401))) else (L22_KeyKnown.j0 k true))) else (L22_KeyKnown.j0 k true))) else (L22_KeyKnown.j0 k true))) else (L22_KeyKnown.j0 k true))) = some true := by rw [if_pos rfl] at H; exact H
                    clear H
                    have H := H1
                    clear H1
                    replace H := Option.bind_eq_some_iff.mp H
                    obtain ⟨t397, A420, H⟩ := H
                    replace H : (if t397 = true then ((L22_left.f k 15 0).bind fun t398 => (if t398 = true then ((L22_covers.f 5 22 true).bind fun t399 => (if t399 = true then ((L22_covers.f 5 23 false).bind fun t400 => (if t400 = true then ((L22_covers.f 22 22 true).bind fun t401 => (L22_KeyKnown.j0 k (!t401))) else (L22_KeyKnown.j0 k true))) else (L22_KeyKnown.j0 k true))) else (L22_KeyKnown.j0 k true))) else (L22_KeyKnown.j0 k true)) = some true := H
                    have A42 := Aside0.mk A420
                    clear A420
                    by_cases c43 : t397 = true
                    · subst c43
                      have H1 : ((L22_left.f k 15 0).bind fun t398 => (if t398 = true then ((L22_covers.f 5 22 true).bind fun t399 => (if t399 = true then ((L22_covers.f 5 23 false).bind fun t400 => (if t400 = true then ((L22_covers.f 22 22 true).bind fun t401 => (L22_KeyKnown.j0 k (!t401))) else (L22_KeyKnown.j0 k true))) else (L22_KeyKnown.j0 k true))) else (L22_KeyKnown.j0 k true))) = some true := by rw [if_pos rfl] at H; exact H
                      clear H
                      have H := H1
                      clear H1
                      replace H := Option.bind_eq_some_iff.mp H
                      obtain ⟨t398, A440, H⟩ := H
                      replace H : (if t398 = true then ((L22_covers.f 5 22 true).bind fun t399 => (if t399 = true then ((L22_covers.f 5 23 false).bind fun t400 => (if t400 = true then ((L22_covers.f 22 22 true).bind fun t401 => (L22_KeyKnown.j0 k (!t401))) else (L22_KeyKnown.j0 k true))) else (L22_KeyKnown.j0 k true))) else (L22_KeyKnown.j0 k true)) = some true := H
                      have A44 := Aside0.mk A440
                      clear A440
                      by_cases c45 : t398 = true
                      · subst c45
                        have H1 : ((L22_covers.f 5 22 true).bind fun t399 => (if t399 = true then ((L22_covers.f 5 23 false).bind fun t400 => (if t400 = true then ((L22_covers.f 22 22 true).bind fun t401 => (L22_KeyKnown.j0 k (!t401))) else (L22_KeyKnown.j0 k true))) else (L22_KeyKnown.j0 k true))) = some true := by rw [if_pos rfl] at H; exact H
                        clear H
                        have H := H1
                        clear H1
                        replace H := Option.bind_eq_some_iff.mp H
                        obtain ⟨t399, A460, H⟩ := H
                        replace H : (if t399 = true then ((L22_covers.f 5 23 false).bind fun t400 => (if t400 = true then ((L22_covers.f 22 22 true).bind fun t401 => (L22_KeyKnown.j0 k (!t401))) else (L22_KeyKnown.j0 k true))) else (L22_KeyKnown.j0 k true)) = some true := H
                        have A46 := Aside0.mk A460
                        clear A460
                        by_cases c47 : t399 = true
                        · subst c47
                          have H1 : ((L22_covers.f 5 23 false).bind fun t400 => (if t400 = true then ((L22_covers.f 22 22 true).bind fun t401 => (L22_KeyKnown.j0 k (!t401))) else (L22_KeyKnown.j0 k true))) = some true := by rw [if_pos rfl] at H; exact H
                          clear H
                          have H := H1
                          clear H1
                          replace H := Option.bind_eq_some_iff.mp H
                          obtain ⟨t400, A480, H⟩ := H
                          replace H : (if t400 = true then ((L22_covers.f 22 22 true).bind fun t401 => (L22_KeyKnown.j0 k (!t401))) else (L22_KeyKnown.j0 k true)) = some true := H
                          have A48 := Aside0.mk A480
                          clear A480
                          by_cases c49 : t400 = true
                          · subst c49
                            have H1 : ((L22_covers.f 22 22 true).bind fun t401 => (L22_KeyKnown.j0 k (!t401))) = some true := by rw [if_pos rfl] at H; exact H
                            clear H
                            have H := H1
                            clear H1
                            replace H := Option.bind_eq_some_iff.mp H
                            obtain ⟨t401, A500, H⟩ := H
                            replace H : (L22_KeyKnown.j0 k (!t401)) = some true := H
                            have A50 := Aside0.mk A500
                            clear A500
                            rcases t401 with _ | _
                            · replace H : (L22_KeyKnown.j0 k true) = some true := H
                              exact absurd H (by repeat (first | exact never_none | exact never_false | refine never_ite ?_ ?_ | refine never_bind (fun _ => ?_) | exact L22_KeyKnown.j0_d80true _))
                            · replace H : (L22_KeyKnown.j0 k false) = some true := H
                              have H' := Aside0.mk H
                              clear H
                              try go_wp2
                              have n0_ : Aside0 (Kd.R (Kd.int .i64) 3 (((w24.setCell ⟨gb383, 0, none⟩ (.slice Ao25 t376.length co25)).setCell ⟨gb383, 1, none⟩ (.int .i64 t379)).setCell ⟨gb383, 2, none⟩ (.int .i64 t380)) w.heap.size (fun k_ => some k_ ≠ (.slice Ao12 t350.length co12 : Value).ownBlock ∧ some k_ ≠ (.slice Ao15 t358.length co15 : Value).ownBlock ∧ some k_ ≠ (.slice Ao18 t363.length co18 : Value).ownBlock ∧ some k_ ≠ (.slice Ao22 t371.length co22 : Value).ownBlock ∧ some k_ ≠ (.slice Ao25 t376.length co25 : Value).ownBlock) (.slice Ao9 t345.length co9) t345) := ⟨by (with_reducible repeat (first | apply Kd.R_alloc | apply Kd.R_drewN | apply Kd.R_drew)); exact Kd.R_mono (Kd.R_far (p := ⟨gb383, 2, none⟩) (Kd.R_far (p := ⟨gb383, 1, none⟩) (Kd.R_far (p := ⟨gb383, 0, none⟩) (Kd.R_types HO347.out BK383.out (by decide)) (fun _ hk => hk.2) (.slice Ao25 t376.length co25)) (fun _ hk => hk.2) (.int .i64 t379)) (fun _ hk => hk.2) (.int .i64 t380)) (fun _ hk => ⟨hk.1.1.1.1.1.2, ⟨hk.1.1.1.1.2, ⟨hk.1.1.1.2, ⟨hk.1.1.2, hk.1.2⟩⟩⟩⟩)⟩
                              have n1_ : Aside0 (Kd.R (Kd.int .i64) 3 (((w24.setCell ⟨gb383, 0, none⟩ (.slice Ao25 t376.length co25)).setCell ⟨gb383, 1, none⟩ (.int .i64 t379)).setCell ⟨gb383, 2, none⟩ (.int .i64 t380)) w.heap.size (fun k_ => some k_ ≠ (.slice Ao9 t345.length co9 : Value).ownBlock ∧ some k_ ≠ (.slice Ao15 t358.length co15 : Value).ownBlock ∧ some k_ ≠ (.slice Ao18 t363.length co18 : Value).ownBlock ∧ some k_ ≠ (.slice Ao22 t371.length co22 : Value).ownBlock ∧ some k_ ≠ (.slice Ao25 t376.length co25 : Value).ownBlock) (.slice Ao12 t350.length co12) t350) := ⟨by (with_reducible repeat (first | apply Kd.R_alloc | apply Kd.R_drewN | apply Kd.R_drew)); exact Kd.R_mono (Kd.R_far (p := ⟨gb383, 2, none⟩) (Kd.R_far (p := ⟨gb383, 1, none⟩) (Kd.R_far (p := ⟨gb383, 0, none⟩) (Kd.R_types HO352.out BK383.out (by decide)) (fun _ hk => hk.2) (.slice Ao25 t376.length co25)) (fun _ hk => hk.2) (.int .i64 t379)) (fun _ hk => hk.2) (.int .i64 t380)) (fun _ hk => ⟨hk.1.1.1.1.1.2, ⟨hk.1.1.1.1.2, ⟨hk.1.1.1.2, ⟨hk.1.1.2, hk.1.2⟩⟩⟩⟩)⟩
                              have n2_ : Aside0 (Kd.R (Kd.int .i64) 3 (((w24.setCell ⟨gb383, 0, none⟩ (.slice Ao25 t376.length co25)).setCell ⟨gb383, 1, none⟩ (.int .i64 t379)).setCell ⟨gb383, 2, none⟩ (.int .i64 t380)) w.heap.size (fun k_ => some k_ ≠ (.slice Ao9 t345.length co9 : Value).ownBlock ∧ some k_ ≠ (.slice Ao12 t350.length co12 : Value).ownBlock ∧ some k_ ≠ (.slice Ao18 t363.length co18 : Value).ownBlock ∧ some k_ ≠ (.slice Ao22 t371.length co22 : Value).ownBlock ∧ some k_ ≠ (.slice Ao25 t376.length co25 : Value).ownBlock) (.slice Ao15 t358.length co15) t358) := ⟨by (with_reducible repeat (first | apply Kd.R_alloc | apply Kd.R_drewN | apply Kd.R_drew)); exact Kd.R_mono (Kd.R_far (p := ⟨gb383, 2, none⟩) (Kd.R_far (p := ⟨gb383, 1, none⟩) (Kd.R_far (p := ⟨gb383, 0, none⟩) (Kd.R_types HO360.out BK383.out (by decide)) (fun _ hk => hk.2) (.slice Ao25 t376.length co25)) (fun _ hk => hk.2) (.int .i64 t379)) (fun _ hk => hk.2) (.int .i64 t380)) (fun _ hk => ⟨hk.1.1.1.1.1.2, ⟨hk.1.1.1.1.2, ⟨hk.1.1.1.2, ⟨hk.1.1.2, hk.1.2⟩⟩⟩⟩)⟩
                              have n3_ : Aside0 (Kd.R (Kd.int .i64) 3 (((w24.setCell ⟨gb383, 0, none⟩ (.slice Ao25 t376.length co25)).setCell ⟨gb383, 1, none⟩ (.int .i64 t379)).setCell ⟨gb383, 2, none⟩ (.int .i64 t380)) w.heap.size (fun k_ => some k_ ≠ (.slice Ao9 t345.length co9 : Value).ownBlock ∧ some k_ ≠ (.slice Ao12 t350.length co12 : Value).ownBlock ∧ some k_ ≠ (.slice Ao15 t358.length co15 : Value).ownBlock ∧ some k_ ≠ (.slice Ao22 t371.length co22 : Value).ownBlock ∧ some k_ ≠ (.slice Ao25 t376.length co25 : Value).ownBlock) (.slice Ao18 t363.length co18) t363) := ⟨by (with_reducible repeat (first | apply Kd.R_alloc | apply Kd.R_drewN | apply Kd.R_drew)); exact Kd.R_mono (Kd.R_far (p := ⟨gb383, 2, none⟩) (Kd.R_far (p := ⟨gb383, 1, none⟩) (Kd.R_far (p := ⟨gb383, 0, none⟩) (Kd.R_types HO365.out BK383.out (by decide)) (fun _ hk => hk.2) (.slice Ao25 t376.length co25)) (fun _ hk => hk.2) (.int .i64 t379)) (fun _ hk => hk.2) (.int .i64 t380)) (fun _ hk => ⟨hk.1.1.1.1.1.2, ⟨hk.1.1.1.1.2, ⟨hk.1.1.1.2, ⟨hk.1.1.2, hk.1.2⟩⟩⟩⟩)⟩
                              have n4_ : Aside0 (Kd.R (Kd.int .i64) 3 (((w24.setCell ⟨gb383, 0, none⟩ (.slice Ao25 t376.length co25)).setCell ⟨gb383, 1, none⟩ (.int .i64 t379)).setCell ⟨gb383, 2, none⟩ (.int .i64 t380)) w.heap.size (fun k_ => some k_ ≠ (.slice Ao9 t345.length co9 : Value).ownBlock ∧ some k_ ≠ (.slice Ao12 t350.length co12 : Value).ownBlock ∧ some k_ ≠ (.slice Ao15 t358.length co15 : Value).ownBlock ∧ some k_ ≠ (.slice Ao18 t363.length co18 : Value).ownBlock ∧ some k_ ≠ (.slice Ao25 t376.length co25 : Value).ownBlock) (.slice Ao22 t371.length co22) t371) := ⟨by (with_reducible repeat (first | apply Kd.R_alloc | apply Kd.R_drewN | apply Kd.R_drew)); exact Kd.R_mono (Kd.R_far (p := ⟨gb383, 2, none⟩) (Kd.R_far (p := ⟨gb383, 1, none⟩) (Kd.R_far (p := ⟨gb383, 0, none⟩) (Kd.R_types HO373.out BK383.out (by decide)) (fun _ hk => hk.2) (.slice Ao25 t376.length co25)) (fun _ hk => hk.2) (.int .i64 t379)) (fun _ hk => hk.2) (.int .i64 t380)) (fun _ hk => ⟨hk.1.1.1.1.1.2, ⟨hk.1.1.1.1.2, ⟨hk.1.1.1.2, ⟨hk.1.1.2, hk.1.2⟩⟩⟩⟩)⟩
                              have n5_ : Aside0 (Kd.R (Kd.int .i64) 3 (((w24.setCell ⟨gb383, 0, none⟩ (.slice Ao25 t376.length co25)).setCell ⟨gb383, 1, none⟩ (.int .i64 t379)).setCell ⟨gb383, 2, none⟩ (.int .i64 t380)) w.heap.size (fun k_ => some k_ ≠ (.slice Ao9 t345.length co9 : Value).ownBlock ∧ some k_ ≠ (.slice Ao12 t350.length co12 : Value).ownBlock ∧ some k_ ≠ (.slice Ao15 t358.length co15 : Value).ownBlock ∧ some k_ ≠ (.slice Ao18 t363.length co18 : Value).ownBlock ∧ some k_ ≠ (.slice Ao22 t371.length co22 : Value).ownBlock) (.slice Ao25 t376.length co25) t376) := ⟨by (with_reducible repeat (first | apply Kd.R_alloc | apply Kd.R_drewN | apply Kd.R_drew)); exact Kd.R_mono (Kd.R_far (p := ⟨gb383, 2, none⟩) (Kd.R_far (p := ⟨gb383, 1, none⟩) (Kd.R_far (p := ⟨gb383, 0, none⟩) (Kd.R_types HO378.out BK383.out (by decide)) (fun _ hk => hk.2) (.slice Ao25 t376.length co25)) (fun _ hk => hk.2) (.int .i64 t379)) (fun _ hk => hk.2) (.int .i64 t380)) (fun _ hk => ⟨hk.1.1.1.1.1.2, ⟨hk.1.1.1.1.2, ⟨hk.1.1.1.2, ⟨hk.1.1.2, hk.1.2⟩⟩⟩⟩)⟩
                              have n6_ : Aside0 ((((w24.setCell ⟨gb383, 0, none⟩ (.slice Ao25 t376.length co25)).setCell ⟨gb383, 1, none⟩ (.int .i64 t379)).setCell ⟨gb383, 2, none⟩ (.int .i64 t380)).heap[gb357]? = some (.cells #[.slice Ao12 t350.length co12, .int .i64 t353, .int .i64 t354] 24 (0, 0))) := ⟨by (with_reducible repeat (first | refine blk_drewN ?_ _ | refine blk_drew ?_ | refine blk_alloc ?_ _)); refine blk_far ?_ NB357_383.out _; (with_reducible repeat (first | refine blk_drewN ?_ _ | refine blk_drew ?_ | refine blk_alloc ?_ _)); refine blk_far ?_ NB357_383.out _; (with_reducible repeat (first | refine blk_drewN ?_ _ | refine blk_drew ?_ | refine blk_alloc ?_ _)); refine blk_far ?_ NB357_383.out _; (with_reducible repeat (first | refine blk_drewN ?_ _ | refine blk_drew ?_ | refine blk_alloc ?_ _)); exact BK357.out⟩
                              have n7_ : Aside0 ((((w24.setCell ⟨gb383, 0, none⟩ (.slice Ao25 t376.length co25)).setCell ⟨gb383, 1, none⟩ (.int .i64 t379)).setCell ⟨gb383, 2, none⟩ (.int .i64 t380)).heap[gb370]? = some (.cells #[.slice Ao18 t363.length co18, .int .i64 t366, .int .i64 t367] 24 (0, 0))) := ⟨by (with_reducible repeat (first | refine blk_drewN ?_ _ | refine blk_drew ?_ | refine blk_alloc ?_ _)); refine blk_far ?_ NB370_383.out _; (with_reducible repeat (first | refine blk_drewN ?_ _ | refine blk_drew ?_ | refine blk_alloc ?_ _)); refine blk_far ?_ NB370_383.out _; (with_reducible repeat (first | refine blk_drewN ?_ _ | refine blk_drew ?_ | refine blk_alloc ?_ _)); refine blk_far ?_ NB370_383.out _; (with_reducible repeat (first | refine blk_drewN ?_ _ | refine blk_drew ?_ | refine blk_alloc ?_ _)); exact BK370.out⟩
                              have n8_ : Aside0 ((((w24.setCell ⟨gb383, 0, none⟩ (.slice Ao25 t376.length co25)).setCell ⟨gb383, 1, none⟩ (.int .i64 t379)).setCell ⟨gb383, 2, none⟩ (.int .i64 t380)).heap[gb383]? = some (.cells #[.slice Ao25 t376.length co25, .int .i64 t379, .int .i64 t380] 24 (0, 0))) := ⟨by (with_reducible repeat (first | refine blk_drewN ?_ _ | refine blk_drew ?_ | refine blk_alloc ?_ _)); refine blk_put (cs := #[.slice Ao25 t376.length co25, .int .i64 t379, .int .i64 0]) ?_ 2 _ rfl; (with_reducible repeat (first | refine blk_drewN ?_ _ | refine blk_drew ?_ | refine blk_alloc ?_ _)); refine blk_put (cs := #[.slice Ao25 t376.length co25, .int .i64 0, .int .i64 0]) ?_ 1 _ rfl; (with_reducible repeat (first | refine blk_drewN ?_ _ | refine blk_drew ?_ | refine blk_alloc ?_ _)); refine blk_put (cs := #[.slice none 0 0, .int .i64 0, .int .i64 0]) ?_ 0 _ rfl; (with_reducible repeat (first | refine blk_drewN ?_ _ | refine blk_drew ?_ | refine blk_alloc ?_ _)); exact BK383.out⟩
                              have n9_ : Aside0 (Below w.heap.size w (((w24.setCell ⟨gb383, 0, none⟩ (.slice Ao25 t376.length co25)).setCell ⟨gb383, 1, none⟩ (.int .i64 t379)).setCell ⟨gb383, 2, none⟩ (.int .i64 t380))) := ⟨by repeat (first | (with_reducible first | exact HB.out | apply below_alloc | apply pw_below_drewN | apply below_drew1 | refine below_set ?_ GE357.out | refine below_set ?_ GE370.out | refine below_set ?_ GE383.out) | exact HB.out)⟩
                              (try clear HO347)
                              (try clear HO352)
                              (try clear HO360)
                              (try clear HO365)
                              (try clear HO373)
                              (try clear HO378)
                              (try clear BK357)
                              (try clear BK370)
                              (try clear BK383)
                              (try clear HB)
                              generalize (((w24.setCell ⟨gb383, 0, none⟩ (.slice Ao25 t376.length co25)).setCell ⟨gb383, 1, none⟩ (.int .i64 t379)).setCell ⟨gb383, 2, none⟩ (.int .i64 t380)) = w51 at n0_ n1_ n2_ n3_ n4_ n5_ n6_ n7_ n8_ n9_ ⊢
                              have HO347 := n0_
                              have HO352 := n1_
                              have HO360 := n2_
                              have HO365 := n3_
                              have HO373 := n4_
                              have HO378 := n5_
                              have BK357 := n6_
                              have BK370 := n7_
                              have BK383 := n8_
                              have HB := n9_
                              clear n0_ n1_ n2_ n3_ n4_ n5_ n6_ n7_ n8_ n9_
                              have n0_ := Aside0.mk (Kd.R_drew HO347.out)
                              have n1_ := Aside0.mk (Kd.R_drew HO352.out)
                              have n2_ := Aside0.mk (Kd.R_drew HO360.out)
                              have n3_ := Aside0.mk (Kd.R_drew HO365.out)
                              have n4_ := Aside0.mk (Kd.R_drew HO373.out)
                              have n5_ := Aside0.mk (Kd.R_drew HO378.out)
                              have n6_ := Aside0.mk (blk_drew BK357.out)
                              have n7_ := Aside0.mk (blk_drew BK370.out)
                              have n8_ := Aside0.mk (blk_drew BK383.out)
                              have n9_ := Aside0.mk (below_drew1 HB.out)
                              clear HO347
                              clear HO352
                              clear HO360
                              clear HO365
                              clear HO373
                              clear HO378
                              clear BK357
                              clear BK370
                              clear BK383
                              clear HB
                              have HO347 := n0_
                              have HO352 := n1_
                              have HO360 := n2_
                              have HO365 := n3_
                              have HO373 := n4_
                              have HO378 := n5_
                              have BK357 := n6_
                              have BK370 := n7_
                              have BK383 := n8_
                              have HB := n9_
                              clear n0_ n1_ n2_ n3_ n4_ n5_ n6_ n7_ n8_ n9_
                              refine start_ (n := 53) (S := fun w' => w'.cell? ⟨gb357, 0, none⟩ = some (.slice Ao12 t350.length co12) ∧ w'.cell? ⟨gb357, 1, none⟩ = some (.int .i64 t353) ∧ w'.cell? ⟨gb357, 2, none⟩ = some (.int .i64 t354) ∧ w'.cell? ⟨gb383, 0, none⟩ = some (.slice Ao25 t376.length co25) ∧ w'.cell? ⟨gb383, 1, none⟩ = some (.int .i64 t379) ∧ w'.cell? ⟨gb383, 2, none⟩ = some (.int .i64 t380)) (ds := []) #[false, false, false, false, false, false, false, false, false, false, false, false, false, false, false, false, false, false, false, false, false, false, false, false, false, false, false, false, false, false, false, false, false, false, false, false, false, false, false, false, false, false, false, false, false, false, false, false, false, false, false, false, false] (by kernel_rfl) rfl rfl ⟨(blk_cell BK357.out 0).trans rfl, (blk_cell BK357.out 1).trans rfl, (blk_cell BK357.out 2).trans rfl, (blk_cell BK383.out 0).trans rfl, (blk_cell BK383.out 1).trans rfl, (blk_cell BK383.out 2).trans rfl⟩ (fun hHeld => ?_); refine with_tabW L22_KeyKnown.tab4 L22_KeyKnown.bits4 (fun HT_ HW_ => ?_)
                              generalize w51.drew = w52 at HO347 HO352 HO360 HO365 HO373 HO378 BK357 BK370 BK383 HB hHeld ⊢
                              refine take_ (i := 0) (N := some 28) (v := ?_) (a' := ?_) #[true, false, false, false, false, false, false, false, false, false, false, false, false, false, false, false, false, false, false, false, false, false, false, false, false, false, false, false, false, false, false, false, false, false, false, false, false, false, false, false, false, false, false, false, false, false, false, false, false, false, false, false, false] rfl rfl (take_ofW HT_.out HW_.out (by kernel_rfl)) (fun _ _ _ h => h) (Or.inl ⟨by rfl, ?_⟩) hHeld ?_ ?_
                              rotate_left
                              · rintro w' ⟨s0, s1, s2, s3, s4, s5⟩
                                go_simp
                                with_reducible rfl
                              rotate_left
                              · simp only [Act.put, List.setIfInBounds_toArray, List.set_cons_zero, List.set_cons_succ, i64_w, i32_w]
                                rfl
                              refine one_ (i := 1) (N := some 29) #[true, true, false, false, false, false, false, false, false, false, false, false, false, false, false, false, false, false, false, false, false, false, false, false, false, false, false, false, false, false, false, false, false, false, false, false, false, false, false, false, false, false, false, false, false, false, false, false, false, false, false, false, false] rfl rfl (one_of HT_.out (by kernel_rfl)) (by decide) (fun K hK => ?_)
                              refine goes_ Try.func21 (by kernel_rfl) rfl #[.int .i64 (-1)] (by rfl) rfl rfl (by (try simp only [List.map_toArray, List.map_cons, List.map_nil]); first | done | rfl | (simp only [List.length_drop, List.length_take]; rfl)) ?_
                              with_reducible refine (L22_state.calls (-1) t384 t387 t388 _ A29.out).mono ?_
                              rintro e w53 ⟨v385, rfl, ho0, hb⟩
                              refine ⟨_, rfl, ?_⟩
                              have n0_ := Aside0.mk (Kd.R_elder' (by (with_reducible repeat (first | apply Kd.R_alloc | apply Kd.R_drewN | apply Kd.R_drew)); exact HO347.out) (Kd.R_base ho0) hb)
                              have n1_ := Aside0.mk (Kd.R_elder' (by (with_reducible repeat (first | apply Kd.R_alloc | apply Kd.R_drewN | apply Kd.R_drew)); exact HO352.out) (Kd.R_base ho0) hb)
                              have n2_ := Aside0.mk (Kd.R_elder' (by (with_reducible repeat (first | apply Kd.R_alloc | apply Kd.R_drewN | apply Kd.R_drew)); exact HO360.out) (Kd.R_base ho0) hb)
                              have n3_ := Aside0.mk (Kd.R_elder' (by (with_reducible repeat (first | apply Kd.R_alloc | apply Kd.R_drewN | apply Kd.R_drew)); exact HO365.out) (Kd.R_base ho0) hb)
                              have n4_ := Aside0.mk (Kd.R_elder' (by (with_reducible repeat (first | apply Kd.R_alloc | apply Kd.R_drewN | apply Kd.R_drew)); exact HO373.out) (Kd.R_base ho0) hb)
                              have n5_ := Aside0.mk (Kd.R_elder' (by (with_reducible repeat (first | apply Kd.R_alloc | apply Kd.R_drewN | apply Kd.R_drew)); exact HO378.out) (Kd.R_base ho0) hb)
                              have n6_ := Aside0.mk (Kd.R_lower (Kd.R_new' (Kd.R_new' (Kd.R_new' (Kd.R_new' (Kd.R_new' (Kd.R_new' ho0 (Kd.R_lt (by (with_reducible repeat (first | apply Kd.R_alloc | apply Kd.R_drewN | apply Kd.R_drew)); exact HO347.out))) (Kd.R_lt (by (with_reducible repeat (first | apply Kd.R_alloc | apply Kd.R_drewN | apply Kd.R_drew)); exact HO352.out))) (Kd.R_lt (by (with_reducible repeat (first | apply Kd.R_alloc | apply Kd.R_drewN | apply Kd.R_drew)); exact HO360.out))) (Kd.R_lt (by (with_reducible repeat (first | apply Kd.R_alloc | apply Kd.R_drewN | apply Kd.R_drew)); exact HO365.out))) (Kd.R_lt (by (with_reducible repeat (first | apply Kd.R_alloc | apply Kd.R_drewN | apply Kd.R_drew)); exact HO373.out))) (Kd.R_lt (by (with_reducible repeat (first | apply Kd.R_alloc | apply Kd.R_drewN | apply Kd.R_drew)); exact HO378.out))) (below_size (by repeat (first | (with_reducible first | exact HB.out | apply below_alloc | apply pw_below_drewN | apply below_drew1 | refine below_set ?_ GE357.out | refine below_set ?_ GE370.out | refine below_set ?_ GE383.out) | exact HB.out))))
                              have n7_ := Aside0.mk (blk_below (g := gb357) (o := .cells #[.slice Ao12 t350.length co12, .int .i64 t353, .int .i64 t354] 24 (0, 0)) (by (with_reducible repeat (first | refine blk_drewN ?_ _ | refine blk_drew ?_ | refine blk_alloc ?_ _)); exact BK357.out) hb)
                              have n8_ := Aside0.mk (blk_below (g := gb370) (o := .cells #[.slice Ao18 t363.length co18, .int .i64 t366, .int .i64 t367] 24 (0, 0)) (by (with_reducible repeat (first | refine blk_drewN ?_ _ | refine blk_drew ?_ | refine blk_alloc ?_ _)); exact BK370.out) hb)
                              have n9_ := Aside0.mk (blk_below (g := gb383) (o := .cells #[.slice Ao25 t376.length co25, .int .i64 t379, .int .i64 t380] 24 (0, 0)) (by (with_reducible repeat (first | refine blk_drewN ?_ _ | refine blk_drew ?_ | refine blk_alloc ?_ _)); exact BK383.out) hb)
                              have n10_ := Aside0.mk (below_step (by repeat (first | (with_reducible first | exact HB.out | apply below_alloc | apply pw_below_drewN | apply below_drew1 | refine below_set ?_ GE357.out | refine below_set ?_ GE370.out | refine below_set ?_ GE383.out) | exact HB.out)) hb)
                              clear HO347
                              clear HO352
                              clear HO360
                              clear HO365
                              clear HO373
                              clear HO378
                              clear BK357
                              clear BK370
                              clear BK383
                              clear HB
                              have HO347 := n0_
                              have HO352 := n1_
                              have HO360 := n2_
                              have HO365 := n3_
                              have HO373 := n4_
                              have HO378 := n5_
                              have HO386 := n6_
                              have BK357 := n7_
                              have BK370 := n8_
                              have BK383 := n9_
                              have HB := n10_
                              clear n0_ n1_ n2_ n3_ n4_ n5_ n6_ n7_ n8_ n9_ n10_
                              (try clear hb)
                              (try clear hb2)
                              (try clear hk)
                              (try clear hi)
                              (try clear ho0)
                              obtain ⟨Ao54, co54, eo54⟩ := Kd.R_slice HO386.out
                              (first | subst eo54 | (injection eo54 with f1_ f2_ f3_; have f4_ := f1_.symm; have f5_ := f3_.symm; clear f1_ f2_ f3_; subst f4_; subst f5_))
                              refine hK.out _ _ ⟨(blk_cell BK357.out 0).trans rfl, (blk_cell BK357.out 1).trans rfl, (blk_cell BK357.out 2).trans rfl, (blk_cell BK383.out 0).trans rfl, (blk_cell BK383.out 1).trans rfl, (blk_cell BK383.out 2).trans rfl⟩ (fun hHeld => ?_)
                              clear hK K
                              refine norm_ (a' := ?_) ?_ ?_
                              rotate_left
                              · show Act.put _ (some 29) _ = _
                                simp only [Act.put, List.setIfInBounds_toArray, List.set_cons_zero, List.set_cons_succ, i64_w, i32_w]
                                rfl
                              refine one_ (i := 2) (N := some 30) #[true, true, true, false, false, false, false, false, false, false, false, false, false, false, false, false, false, false, false, false, false, false, false, false, false, false, false, false, false, false, false, false, false, false, false, false, false, false, false, false, false, false, false, false, false, false, false, false, false, false, false, false, false] rfl rfl (one_of HT_.out (by kernel_rfl)) (by decide) (fun K hK => ?_)
                              refine goes_ Try.func20 (by kernel_rfl) rfl #[.agg #[.slice Ao12 t350.length co12, .int .i64 t353, .int .i64 t354], .agg #[.slice Ao54 t384.length co54, .int .i64 t387, .int .i64 t388]] (by rfl) rfl rfl (by (try simp only [List.map_toArray, List.map_cons, List.map_nil]); first | done | rfl | (simp only [List.length_drop, List.length_take]; rfl)) ?_
                              with_reducible refine (L22_same.calls k _ _ t350 t353 t354 _ _ t384 t387 t388 true _ ?side1 ?side2 ?side3 ?side4 A30.out).mono ?_
                              (case side1 => repeat (first | exact (Kd.R_reads' HO352.out).2.2 | (with_reducible refine Kd.C_alloc ?_ _) | (with_reducible refine Kd.C_drewN ?_ _) | (with_reducible refine Kd.C_drew ?_)))
                              (case side2 => exact (Kd.R_reads' HO352.out).2.1)
                              (case side3 => repeat (first | exact (Kd.R_reads' HO386.out).2.2 | (with_reducible refine Kd.C_alloc ?_ _) | (with_reducible refine Kd.C_drewN ?_ _) | (with_reducible refine Kd.C_drew ?_)))
                              (case side4 => exact (Kd.R_reads' HO386.out).2.1)
                              rintro e w55 ⟨rfl, hb⟩
                              refine ⟨_, rfl, ?_⟩
                              have n0_ := Aside0.mk (Kd.R_below (by (with_reducible repeat (first | apply Kd.R_alloc | apply Kd.R_drewN | apply Kd.R_drew)); exact HO347.out) hb)
                              have n1_ := Aside0.mk (Kd.R_below (by (with_reducible repeat (first | apply Kd.R_alloc | apply Kd.R_drewN | apply Kd.R_drew)); exact HO352.out) hb)
                              have n2_ := Aside0.mk (Kd.R_below (by (with_reducible repeat (first | apply Kd.R_alloc | apply Kd.R_drewN | apply Kd.R_drew)); exact HO360.out) hb)
                              have n3_ := Aside0.mk (Kd.R_below (by (with_reducible repeat (first | apply Kd.R_alloc | apply Kd.R_drewN | apply Kd.R_drew)); exact HO365.out) hb)
                              have n4_ := Aside0.mk (Kd.R_below (by (with_reducible repeat (first | apply Kd.R_alloc | apply Kd.R_drewN | apply Kd.R_drew)); exact HO373.out) hb)
                              have n5_ := Aside0.mk (Kd.R_below (by (with_reducible repeat (first | apply Kd.R_alloc | apply Kd.R_drewN | apply Kd.R_drew)); exact HO378.out) hb)
                              have n6_ := Aside0.mk (Kd.R_below (by (with_reducible repeat (first | apply Kd.R_alloc | apply Kd.R_drewN | apply Kd.R_drew)); exact HO386.out) hb)
                              have n7_ := Aside0.mk (blk_below (g := gb357) (o := .cells #[.slice Ao12 t350.length co12, .int .i64 t353, .int .i64 t354] 24 (0, 0)) (by (with_reducible repeat (first | refine blk_drewN ?_ _ | refine blk_drew ?_ | refine blk_alloc ?_ _)); exact BK357.out) hb)
                              have n8_ := Aside0.mk (blk_below (g := gb370) (o := .cells #[.slice Ao18 t363.length co18, .int .i64 t366, .int .i64 t367] 24 (0, 0)) (by (with_reducible repeat (first | refine blk_drewN ?_ _ | refine blk_drew ?_ | refine blk_alloc ?_ _)); exact BK370.out) hb)
                              have n9_ := Aside0.mk (blk_below (g := gb383) (o := .cells #[.slice Ao25 t376.length co25, .int .i64 t379, .int .i64 t380] 24 (0, 0)) (by (with_reducible repeat (first | refine blk_drewN ?_ _ | refine blk_drew ?_ | refine blk_alloc ?_ _)); exact BK383.out) hb)
                              have n10_ := Aside0.mk (below_step (by repeat (first | (with_reducible first | exact HB.out | apply below_alloc | apply pw_below_drewN | apply below_drew1 | refine below_set ?_ GE357.out | refine below_set ?_ GE370.out | refine below_set ?_ GE383.out) | exact HB.out)) hb)
                              clear HO347
                              clear HO352
                              clear HO360
                              clear HO365
                              clear HO373
                              clear HO378
                              clear HO386
                              clear BK357
                              clear BK370
                              clear BK383
                              clear HB
                              have HO347 := n0_
                              have HO352 := n1_
                              have HO360 := n2_
                              have HO365 := n3_
                              have HO373 := n4_
                              have HO378 := n5_
                              have HO386 := n6_
                              have BK357 := n7_
                              have BK370 := n8_
                              have BK383 := n9_
                              have HB := n10_
                              clear n0_ n1_ n2_ n3_ n4_ n5_ n6_ n7_ n8_ n9_ n10_
                              (try clear hb)
                              (try clear hb2)
                              (try clear hk)
                              (try clear hi)
                              refine hK.out _ _ ⟨(blk_cell BK357.out 0).trans rfl, (blk_cell BK357.out 1).trans rfl, (blk_cell BK357.out 2).trans rfl, (blk_cell BK383.out 0).trans rfl, (blk_cell BK383.out 1).trans rfl, (blk_cell BK383.out 2).trans rfl⟩ (fun hHeld => ?_)
                              clear hK K
                              refine norm_ (a' := ?_) ?_ ?_
                              rotate_left
                              · show Act.put _ (some 30) _ = _
                                simp only [Act.put, List.setIfInBounds_toArray, List.set_cons_zero, List.set_cons_succ, i64_w, i32_w]
                                rfl
                              refine pure_ (i := 3) (N := some 31) (v := ?_) (a' := ?_) #[true, true, true, true, false, false, false, false, false, false, false, false, false, false, false, false, false, false, false, false, false, false, false, false, false, false, false, false, false, false, false, false, false, false, false, false, false, false, false, false, false, false, false, false, false, false, false, false, false, false, false, false, false] rfl rfl (any_of HT_.out (by kernel_rfl)) (fun _ _ _ h => h) (Or.inl ⟨by rfl, ?_⟩) ?_ ?_
                              rotate_left
                              · intro w'
                                go_simp
                                with_reducible rfl
                              rotate_left
                              · simp only [Act.put, List.setIfInBounds_toArray, List.set_cons_zero, List.set_cons_succ, i64_w, i32_w]
                                rfl
                              refine pure_ (i := 4) (N := some 32) (v := ?_) (a' := ?_) #[true, true, true, true, true, false, false, false, false, false, false, false, false, false, false, false, false, false, false, false, false, false, false, false, false, false, false, false, false, false, false, false, false, false, false, false, false, false, false, false, false, false, false, false, false, false, false, false, false, false, false, false, false] rfl rfl (any_of HT_.out (by kernel_rfl)) (fun _ _ _ h => h) (Or.inl ⟨by rfl, ?_⟩) ?_ ?_
                              rotate_left
                              · intro w'
                                go_simp
                                with_reducible rfl
                              rotate_left
                              · simp only [Act.put, List.setIfInBounds_toArray, List.set_cons_zero, List.set_cons_succ, i64_w, i32_w]
                                rfl
                              refine pure_ (i := 5) (N := some 33) (v := ?_) (a' := ?_) #[true, true, true, true, true, true, false, false, false, false, false, false, false, false, false, false, false, false, false, false, false, false, false, false, false, false, false, false, false, false, false, false, false, false, false, false, false, false, false, false, false, false, false, false, false, false, false, false, false, false, false, false, false] rfl rfl (any_of HT_.out (by kernel_rfl)) (fun _ _ _ h => h) (Or.inl ⟨by rfl, ?_⟩) ?_ ?_
                              rotate_left
                              · intro w'
                                go_simp
                                with_reducible rfl
                              rotate_left
                              · simp only [Act.put, List.setIfInBounds_toArray, List.set_cons_zero, List.set_cons_succ, i64_w, i32_w]
                                rfl
                              refine pure_ (i := 6) (N := some 34) (v := ?_) (a' := ?_) #[true, true, true, true, true, true, true, false, false, false, false, false, false, false, false, false, false, false, false, false, false, false, false, false, false, false, false, false, false, false, false, false, false, false, false, false, false, false, false, false, false, false, false, false, false, false, false, false, false, false, false, false, false] rfl rfl (any_of HT_.out (by kernel_rfl)) (fun _ _ _ h => h) (Or.inl ⟨by rfl, ?_⟩) ?_ ?_
                              rotate_left
                              · intro w'
                                go_simp
                                with_reducible rfl
                              rotate_left
                              · simp only [Act.put, List.setIfInBounds_toArray, List.set_cons_zero, List.set_cons_succ, i64_w, i32_w]
                                rfl
                              refine pure_ (i := 7) (N := some 35) (v := ?_) (a' := ?_) #[true, true, true, true, true, true, true, true, false, false, false, false, false, false, false, false, false, false, false, false, false, false, false, false, false, false, false, false, false, false, false, false, false, false, false, false, false, false, false, false, false, false, false, false, false, false, false, false, false, false, false, false, false] rfl rfl (any_of HT_.out (by kernel_rfl)) (fun _ _ _ h => h) (Or.inl ⟨by rfl, ?_⟩) ?_ ?_
                              rotate_left
                              · intro w'
                                go_simp
                                with_reducible rfl
                              rotate_left
                              · simp only [Act.put, List.setIfInBounds_toArray, List.set_cons_zero, List.set_cons_succ, i64_w, i32_w]
                                rfl
                              refine pure_ (i := 8) (N := some 36) (v := ?_) (a' := ?_) #[true, true, true, true, true, true, true, true, true, false, false, false, false, false, false, false, false, false, false, false, false, false, false, false, false, false, false, false, false, false, false, false, false, false, false, false, false, false, false, false, false, false, false, false, false, false, false, false, false, false, false, false, false] rfl rfl (any_of HT_.out (by kernel_rfl)) (fun _ _ _ h => h) (Or.inl ⟨by rfl, ?_⟩) ?_ ?_
                              rotate_left
                              · intro w'
                                go_simp
                                with_reducible rfl
                              rotate_left
                              · simp only [Act.put, List.setIfInBounds_toArray, List.set_cons_zero, List.set_cons_succ, i64_w, i32_w]
                                rfl
                              refine pure_ (i := 9) (N := some 37) (v := ?_) (a' := ?_) #[true, true, true, true, true, true, true, true, true, true, false, false, false, false, false, false, false, false, false, false, false, false, false, false, false, false, false, false, false, false, false, false, false, false, false, false, false, false, false, false, false, false, false, false, false, false, false, false, false, false, false, false, false] rfl rfl (any_of HT_.out (by kernel_rfl)) (fun _ _ _ h => h) (Or.inl ⟨by rfl, ?_⟩) ?_ ?_
                              rotate_left
                              · intro w'
                                go_simp
                                with_reducible rfl
                              rotate_left
                              · simp only [Act.put, List.setIfInBounds_toArray, List.set_cons_zero, List.set_cons_succ, i64_w, i32_w]
                                rfl
                              refine pure_ (i := 10) (N := some 38) (v := ?_) (a' := ?_) #[true, true, true, true, true, true, true, true, true, true, true, false, false, false, false, false, false, false, false, false, false, false, false, false, false, false, false, false, false, false, false, false, false, false, false, false, false, false, false, false, false, false, false, false, false, false, false, false, false, false, false, false, false] rfl rfl (any_of HT_.out (by kernel_rfl)) (fun _ _ _ h => h) (Or.inl ⟨by rfl, ?_⟩) ?_ ?_
                              rotate_left
                              · intro w'
                                go_simp
                                with_reducible rfl
                              rotate_left
                              · simp only [Act.put, List.setIfInBounds_toArray, List.set_cons_zero, List.set_cons_succ, i64_w, i32_w]
                                rfl
                              refine pure_ (i := 11) (N := some 39) (v := ?_) (a' := ?_) #[true, true, true, true, true, true, true, true, true, true, true, true, false, false, false, false, false, false, false, false, false, false, false, false, false, false, false, false, false, false, false, false, false, false, false, false, false, false, false, false, false, false, false, false, false, false, false, false, false, false, false, false, false] rfl rfl (any_of HT_.out (by kernel_rfl)) (fun _ _ _ h => h) (Or.inl ⟨by rfl, ?_⟩) ?_ ?_
                              rotate_left
                              · intro w'
                                go_simp
                                with_reducible rfl
                              rotate_left
                              · simp only [Act.put, List.setIfInBounds_toArray, List.set_cons_zero, List.set_cons_succ, i64_w, i32_w]
                                rfl
                              refine pure_ (i := 12) (N := some 40) (v := ?_) (a' := ?_) #[true, true, true, true, true, true, true, true, true, true, true, true, true, false, false, false, false, false, false, false, false, false, false, false, false, false, false, false, false, false, false, false, false, false, false, false, false, false, false, false, false, false, false, false, false, false, false, false, false, false, false, false, false] rfl rfl (any_of HT_.out (by kernel_rfl)) (fun _ _ _ h => h) (Or.inl ⟨by rfl, ?_⟩) ?_ ?_
                              rotate_left
                              · intro w'
                                go_simp
                                with_reducible rfl
                              rotate_left
                              · simp only [Act.put, List.setIfInBounds_toArray, List.set_cons_zero, List.set_cons_succ, i64_w, i32_w]
                                rfl
                              refine pure_ (i := 13) (N := some 41) (v := ?_) (a' := ?_) #[true, true, true, true, true, true, true, true, true, true, true, true, true, true, false, false, false, false, false, false, false, false, false, false, false, false, false, false, false, false, false, false, false, false, false, false, false, false, false, false, false, false, false, false, false, false, false, false, false, false, false, false, false] rfl rfl (any_of HT_.out (by kernel_rfl)) (fun _ _ _ h => h) (Or.inl ⟨by rfl, ?_⟩) ?_ ?_
                              rotate_left
                              · intro w'
                                go_simp
                                with_reducible rfl
                              rotate_left
                              · simp only [Act.put, List.setIfInBounds_toArray, List.set_cons_zero, List.set_cons_succ, i64_w, i32_w]
                                rfl
                              refine pure_ (i := 14) (N := some 42) (v := ?_) (a' := ?_) #[true, true, true, true, true, true, true, true, true, true, true, true, true, true, true, false, false, false, false, false, false, false, false, false, false, false, false, false, false, false, false, false, false, false, false, false, false, false, false, false, false, false, false, false, false, false, false, false, false, false, false, false, false] rfl rfl (any_of HT_.out (by kernel_rfl)) (fun _ _ _ h => h) (Or.inl ⟨by rfl, ?_⟩) ?_ ?_
                              rotate_left
                              · intro w'
                                go_simp
                                with_reducible rfl
                              rotate_left
                              · simp only [Act.put, List.setIfInBounds_toArray, List.set_cons_zero, List.set_cons_succ, i64_w, i32_w]
                                rfl
                              refine pure_ (i := 15) (N := some 43) (v := ?_) (a' := ?_) #[true, true, true, true, true, true, true, true, true, true, true, true, true, true, true, true, false, false, false, false, false, false, false, false, false, false, false, false, false, false, false, false, false, false, false, false, false, false, false, false, false, false, false, false, false, false, false, false, false, false, false, false, false] rfl rfl (any_of HT_.out (by kernel_rfl)) (fun _ _ _ h => h) (Or.inl ⟨by rfl, ?_⟩) ?_ ?_
                              rotate_left
                              · intro w'
                                go_simp
                                with_reducible rfl
                              rotate_left
                              · simp only [Act.put, List.setIfInBounds_toArray, List.set_cons_zero, List.set_cons_succ, i64_w, i32_w]
                                rfl
                              refine take_ (i := 16) (N := some 44) (v := ?_) (a' := ?_) #[true, true, true, true, true, true, true, true, true, true, true, true, true, true, true, true, true, false, false, false, false, false, false, false, false, false, false, false, false, false, false, false, false, false, false, false, false, false, false, false, false, false, false, false, false, false, false, false, false, false, false, false, false] rfl rfl (take_ofW HT_.out HW_.out (by kernel_rfl)) (fun _ _ _ h => h) (Or.inl ⟨by rfl, ?_⟩) hHeld ?_ ?_
                              rotate_left
                              · rintro w' ⟨s0, s1, s2, s3, s4, s5⟩
                                go_simp
                                with_reducible rfl
                              rotate_left
                              · simp only [Act.put, List.setIfInBounds_toArray, List.set_cons_zero, List.set_cons_succ, i64_w, i32_w]
                                rfl
                              refine one_ (i := 17) (N := some 45) #[true, true, true, true, true, true, true, true, true, true, true, true, true, true, true, true, true, true, false, false, false, false, false, false, false, false, false, false, false, false, false, false, false, false, false, false, false, false, false, false, false, false, false, false, false, false, false, false, false, false, false, false, false] rfl rfl (one_of HT_.out (by kernel_rfl)) (by decide) (fun K hK => ?_)
                              refine goes_ Try.func21 (by kernel_rfl) rfl #[.int .i64 5] (by rfl) rfl rfl (by (try simp only [List.map_toArray, List.map_cons, List.map_nil]); first | done | rfl | (simp only [List.length_drop, List.length_take]; rfl)) ?_
                              with_reducible refine (L22_state.calls 5 t390 t393 t394 _ A35.out).mono ?_
                              rintro e w56 ⟨v391, rfl, ho0, hb⟩
                              refine ⟨_, rfl, ?_⟩
                              have n0_ := Aside0.mk (Kd.R_elder' (by (with_reducible repeat (first | apply Kd.R_alloc | apply Kd.R_drewN | apply Kd.R_drew)); exact HO347.out) (Kd.R_base ho0) hb)
                              have n1_ := Aside0.mk (Kd.R_elder' (by (with_reducible repeat (first | apply Kd.R_alloc | apply Kd.R_drewN | apply Kd.R_drew)); exact HO352.out) (Kd.R_base ho0) hb)
                              have n2_ := Aside0.mk (Kd.R_elder' (by (with_reducible repeat (first | apply Kd.R_alloc | apply Kd.R_drewN | apply Kd.R_drew)); exact HO360.out) (Kd.R_base ho0) hb)
                              have n3_ := Aside0.mk (Kd.R_elder' (by (with_reducible repeat (first | apply Kd.R_alloc | apply Kd.R_drewN | apply Kd.R_drew)); exact HO365.out) (Kd.R_base ho0) hb)
                              have n4_ := Aside0.mk (Kd.R_elder' (by (with_reducible repeat (first | apply Kd.R_alloc | apply Kd.R_drewN | apply Kd.R_drew)); exact HO373.out) (Kd.R_base ho0) hb)
                              have n5_ := Aside0.mk (Kd.R_elder' (by (with_reducible repeat (first | apply Kd.R_alloc | apply Kd.R_drewN | apply Kd.R_drew)); exact HO378.out) (Kd.R_base ho0) hb)
                              have n6_ := Aside0.mk (Kd.R_elder' (by (with_reducible repeat (first | apply Kd.R_alloc | apply Kd.R_drewN | apply Kd.R_drew)); exact HO386.out) (Kd.R_base ho0) hb)
                              have n7_ := Aside0.mk (Kd.R_lower (Kd.R_new' (Kd.R_new' (Kd.R_new' (Kd.R_new' (Kd.R_new' (Kd.R_new' (Kd.R_new' ho0 (Kd.R_lt (by (with_reducible repeat (first | apply Kd.R_alloc | apply Kd.R_drewN | apply Kd.R_drew)); exact HO347.out))) (Kd.R_lt (by (with_reducible repeat (first | apply Kd.R_alloc | apply Kd.R_drewN | apply Kd.R_drew)); exact HO352.out))) (Kd.R_lt (by (with_reducible repeat (first | apply Kd.R_alloc | apply Kd.R_drewN | apply Kd.R_drew)); exact HO360.out))) (Kd.R_lt (by (with_reducible repeat (first | apply Kd.R_alloc | apply Kd.R_drewN | apply Kd.R_drew)); exact HO365.out))) (Kd.R_lt (by (with_reducible repeat (first | apply Kd.R_alloc | apply Kd.R_drewN | apply Kd.R_drew)); exact HO373.out))) (Kd.R_lt (by (with_reducible repeat (first | apply Kd.R_alloc | apply Kd.R_drewN | apply Kd.R_drew)); exact HO378.out))) (Kd.R_lt (by (with_reducible repeat (first | apply Kd.R_alloc | apply Kd.R_drewN | apply Kd.R_drew)); exact HO386.out))) (below_size (by repeat (first | (with_reducible first | exact HB.out | apply below_alloc | apply pw_below_drewN | apply below_drew1 | refine below_set ?_ GE357.out | refine below_set ?_ GE370.out | refine below_set ?_ GE383.out) | exact HB.out))))
                              have n8_ := Aside0.mk (blk_below (g := gb357) (o := .cells #[.slice Ao12 t350.length co12, .int .i64 t353, .int .i64 t354] 24 (0, 0)) (by (with_reducible repeat (first | refine blk_drewN ?_ _ | refine blk_drew ?_ | refine blk_alloc ?_ _)); exact BK357.out) hb)
                              have n9_ := Aside0.mk (blk_below (g := gb370) (o := .cells #[.slice Ao18 t363.length co18, .int .i64 t366, .int .i64 t367] 24 (0, 0)) (by (with_reducible repeat (first | refine blk_drewN ?_ _ | refine blk_drew ?_ | refine blk_alloc ?_ _)); exact BK370.out) hb)
                              have n10_ := Aside0.mk (blk_below (g := gb383) (o := .cells #[.slice Ao25 t376.length co25, .int .i64 t379, .int .i64 t380] 24 (0, 0)) (by (with_reducible repeat (first | refine blk_drewN ?_ _ | refine blk_drew ?_ | refine blk_alloc ?_ _)); exact BK383.out) hb)
                              have n11_ := Aside0.mk (below_step (by repeat (first | (with_reducible first | exact HB.out | apply below_alloc | apply pw_below_drewN | apply below_drew1 | refine below_set ?_ GE357.out | refine below_set ?_ GE370.out | refine below_set ?_ GE383.out) | exact HB.out)) hb)
                              clear HO347
                              clear HO352
                              clear HO360
                              clear HO365
                              clear HO373
                              clear HO378
                              clear HO386
                              clear BK357
                              clear BK370
                              clear BK383
                              clear HB
                              have HO347 := n0_
                              have HO352 := n1_
                              have HO360 := n2_
                              have HO365 := n3_
                              have HO373 := n4_
                              have HO378 := n5_
                              have HO386 := n6_
                              have HO392 := n7_
                              have BK357 := n8_
                              have BK370 := n9_
                              have BK383 := n10_
                              have HB := n11_
                              clear n0_ n1_ n2_ n3_ n4_ n5_ n6_ n7_ n8_ n9_ n10_ n11_
                              (try clear hb)
                              (try clear hb2)
                              (try clear hk)
                              (try clear hi)
                              (try clear ho0)
                              obtain ⟨Ao57, co57, eo57⟩ := Kd.R_slice HO392.out
                              (first | subst eo57 | (injection eo57 with f1_ f2_ f3_; have f4_ := f1_.symm; have f5_ := f3_.symm; clear f1_ f2_ f3_; subst f4_; subst f5_))
                              refine hK.out _ _ ⟨(blk_cell BK357.out 0).trans rfl, (blk_cell BK357.out 1).trans rfl, (blk_cell BK357.out 2).trans rfl, (blk_cell BK383.out 0).trans rfl, (blk_cell BK383.out 1).trans rfl, (blk_cell BK383.out 2).trans rfl⟩ (fun hHeld => ?_)
                              clear hK K
                              refine norm_ (a' := ?_) ?_ ?_
                              rotate_left
                              · show Act.put _ (some 45) _ = _
                                simp only [Act.put, List.setIfInBounds_toArray, List.set_cons_zero, List.set_cons_succ, i64_w, i32_w]
                                rfl
                              refine one_ (i := 18) (N := some 46) #[true, true, true, true, true, true, true, true, true, true, true, true, true, true, true, true, true, true, true, false, false, false, false, false, false, false, false, false, false, false, false, false, false, false, false, false, false, false, false, false, false, false, false, false, false, false, false, false, false, false, false, false, false] rfl rfl (one_of HT_.out (by kernel_rfl)) (by decide) (fun K hK => ?_)
                              refine goes_ Try.func20 (by kernel_rfl) rfl #[.agg #[.slice Ao25 t376.length co25, .int .i64 t379, .int .i64 t380], .agg #[.slice Ao57 t390.length co57, .int .i64 t393, .int .i64 t394]] (by rfl) rfl rfl (by (try simp only [List.map_toArray, List.map_cons, List.map_nil]); first | done | rfl | (simp only [List.length_drop, List.length_take]; rfl)) ?_
                              with_reducible refine (L22_same.calls k _ _ t376 t379 t380 _ _ t390 t393 t394 true _ ?side1 ?side2 ?side3 ?side4 A36.out).mono ?_
                              (case side1 => repeat (first | exact (Kd.R_reads' HO378.out).2.2 | (with_reducible refine Kd.C_alloc ?_ _) | (with_reducible refine Kd.C_drewN ?_ _) | (with_reducible refine Kd.C_drew ?_)))
                              (case side2 => exact (Kd.R_reads' HO378.out).2.1)
                              (case side3 => repeat (first | exact (Kd.R_reads' HO392.out).2.2 | (with_reducible refine Kd.C_alloc ?_ _) | (with_reducible refine Kd.C_drewN ?_ _) | (with_reducible refine Kd.C_drew ?_)))
                              (case side4 => exact (Kd.R_reads' HO392.out).2.1)
                              rintro e w58 ⟨rfl, hb⟩
                              refine ⟨_, rfl, ?_⟩
                              have n0_ := Aside0.mk (Kd.R_below (by (with_reducible repeat (first | apply Kd.R_alloc | apply Kd.R_drewN | apply Kd.R_drew)); exact HO347.out) hb)
                              have n1_ := Aside0.mk (Kd.R_below (by (with_reducible repeat (first | apply Kd.R_alloc | apply Kd.R_drewN | apply Kd.R_drew)); exact HO352.out) hb)
                              have n2_ := Aside0.mk (Kd.R_below (by (with_reducible repeat (first | apply Kd.R_alloc | apply Kd.R_drewN | apply Kd.R_drew)); exact HO360.out) hb)
                              have n3_ := Aside0.mk (Kd.R_below (by (with_reducible repeat (first | apply Kd.R_alloc | apply Kd.R_drewN | apply Kd.R_drew)); exact HO365.out) hb)
                              have n4_ := Aside0.mk (Kd.R_below (by (with_reducible repeat (first | apply Kd.R_alloc | apply Kd.R_drewN | apply Kd.R_drew)); exact HO373.out) hb)
                              have n5_ := Aside0.mk (Kd.R_below (by (with_reducible repeat (first | apply Kd.R_alloc | apply Kd.R_drewN | apply Kd.R_drew)); exact HO378.out) hb)
                              have n6_ := Aside0.mk (Kd.R_below (by (with_reducible repeat (first | apply Kd.R_alloc | apply Kd.R_drewN | apply Kd.R_drew)); exact HO386.out) hb)
                              have n7_ := Aside0.mk (Kd.R_below (by (with_reducible repeat (first | apply Kd.R_alloc | apply Kd.R_drewN | apply Kd.R_drew)); exact HO392.out) hb)
                              have n8_ := Aside0.mk (blk_below (g := gb357) (o := .cells #[.slice Ao12 t350.length co12, .int .i64 t353, .int .i64 t354] 24 (0, 0)) (by (with_reducible repeat (first | refine blk_drewN ?_ _ | refine blk_drew ?_ | refine blk_alloc ?_ _)); exact BK357.out) hb)
                              have n9_ := Aside0.mk (blk_below (g := gb370) (o := .cells #[.slice Ao18 t363.length co18, .int .i64 t366, .int .i64 t367] 24 (0, 0)) (by (with_reducible repeat (first | refine blk_drewN ?_ _ | refine blk_drew ?_ | refine blk_alloc ?_ _)); exact BK370.out) hb)
                              have n10_ := Aside0.mk (blk_below (g := gb383) (o := .cells #[.slice Ao25 t376.length co25, .int .i64 t379, .int .i64 t380] 24 (0, 0)) (by (with_reducible repeat (first | refine blk_drewN ?_ _ | refine blk_drew ?_ | refine blk_alloc ?_ _)); exact BK383.out) hb)
                              have n11_ := Aside0.mk (below_step (by repeat (first | (with_reducible first | exact HB.out | apply below_alloc | apply pw_below_drewN | apply below_drew1 | refine below_set ?_ GE357.out | refine below_set ?_ GE370.out | refine below_set ?_ GE383.out) | exact HB.out)) hb)
                              clear HO347
                              clear HO352
                              clear HO360
                              clear HO365
                              clear HO373
                              clear HO378
                              clear HO386
                              clear HO392
                              clear BK357
                              clear BK370
                              clear BK383
                              clear HB
                              have HO347 := n0_
                              have HO352 := n1_
                              have HO360 := n2_
                              have HO365 := n3_
                              have HO373 := n4_
                              have HO378 := n5_
                              have HO386 := n6_
                              have HO392 := n7_
                              have BK357 := n8_
                              have BK370 := n9_
                              have BK383 := n10_
                              have HB := n11_
                              clear n0_ n1_ n2_ n3_ n4_ n5_ n6_ n7_ n8_ n9_ n10_ n11_
                              (try clear hb)
                              (try clear hb2)
                              (try clear hk)
                              (try clear hi)
                              refine hK.out _ _ ⟨(blk_cell BK357.out 0).trans rfl, (blk_cell BK357.out 1).trans rfl, (blk_cell BK357.out 2).trans rfl, (blk_cell BK383.out 0).trans rfl, (blk_cell BK383.out 1).trans rfl, (blk_cell BK383.out 2).trans rfl⟩ (fun hHeld => ?_)
                              clear hK K
                              refine norm_ (a' := ?_) ?_ ?_
                              rotate_left
                              · show Act.put _ (some 46) _ = _
                                simp only [Act.put, List.setIfInBounds_toArray, List.set_cons_zero, List.set_cons_succ, i64_w, i32_w]
                                rfl
                              refine pure_ (i := 19) (N := some 47) (v := ?_) (a' := ?_) #[true, true, true, true, true, true, true, true, true, true, true, true, true, true, true, true, true, true, true, true, false, false, false, false, false, false, false, false, false, false, false, false, false, false, false, false, false, false, false, false, false, false, false, false, false, false, false, false, false, false, false, false, false] rfl rfl (any_of HT_.out (by kernel_rfl)) (fun _ _ _ h => h) (Or.inl ⟨by rfl, ?_⟩) ?_ ?_
                              rotate_left
                              · intro w'
                                go_simp
                                with_reducible rfl
                              rotate_left
                              · simp only [Act.put, List.setIfInBounds_toArray, List.set_cons_zero, List.set_cons_succ, i64_w, i32_w]
                                rfl
                              refine pure_ (i := 20) (N := some 48) (v := ?_) (a' := ?_) #[true, true, true, true, true, true, true, true, true, true, true, true, true, true, true, true, true, true, true, true, true, false, false, false, false, false, false, false, false, false, false, false, false, false, false, false, false, false, false, false, false, false, false, false, false, false, false, false, false, false, false, false, false] rfl rfl (any_of HT_.out (by kernel_rfl)) (fun _ _ _ h => h) (Or.inl ⟨by rfl, ?_⟩) ?_ ?_
                              rotate_left
                              · intro w'
                                go_simp
                                with_reducible rfl
                              rotate_left
                              · simp only [Act.put, List.setIfInBounds_toArray, List.set_cons_zero, List.set_cons_succ, i64_w, i32_w]
                                rfl
                              refine pure_ (i := 21) (N := some 49) (v := ?_) (a' := ?_) #[true, true, true, true, true, true, true, true, true, true, true, true, true, true, true, true, true, true, true, true, true, true, false, false, false, false, false, false, false, false, false, false, false, false, false, false, false, false, false, false, false, false, false, false, false, false, false, false, false, false, false, false, false] rfl rfl (any_of HT_.out (by kernel_rfl)) (fun _ _ _ h => h) (Or.inl ⟨by rfl, ?_⟩) ?_ ?_
                              rotate_left
                              · intro w'
                                go_simp
                                with_reducible rfl
                              rotate_left
                              · simp only [Act.put, List.setIfInBounds_toArray, List.set_cons_zero, List.set_cons_succ, i64_w, i32_w]
                                rfl
                              refine pure_ (i := 22) (N := some 50) (v := ?_) (a' := ?_) #[true, true, true, true, true, true, true, true, true, true, true, true, true, true, true, true, true, true, true, true, true, true, true, false, false, false, false, false, false, false, false, false, false, false, false, false, false, false, false, false, false, false, false, false, false, false, false, false, false, false, false, false, false] rfl rfl (any_of HT_.out (by kernel_rfl)) (fun _ _ _ h => h) (Or.inl ⟨by rfl, ?_⟩) ?_ ?_
                              rotate_left
                              · intro w'
                                go_simp
                                with_reducible rfl
                              rotate_left
                              · simp only [Act.put, List.setIfInBounds_toArray, List.set_cons_zero, List.set_cons_succ, i64_w, i32_w]
                                rfl
                              refine pure_ (i := 23) (N := some 51) (v := ?_) (a' := ?_) #[true, true, true, true, true, true, true, true, true, true, true, true, true, true, true, true, true, true, true, true, true, true, true, true, false, false, false, false, false, false, false, false, false, false, false, false, false, false, false, false, false, false, false, false, false, false, false, false, false, false, false, false, false] rfl rfl (any_of HT_.out (by kernel_rfl)) (fun _ _ _ h => h) (Or.inl ⟨by rfl, ?_⟩) ?_ ?_
                              rotate_left
                              · intro w'
                                go_simp
                                with_reducible rfl
                              rotate_left
                              · simp only [Act.put, List.setIfInBounds_toArray, List.set_cons_zero, List.set_cons_succ, i64_w, i32_w]
                                rfl
                              refine pure_ (i := 24) (N := some 52) (v := ?_) (a' := ?_) #[true, true, true, true, true, true, true, true, true, true, true, true, true, true, true, true, true, true, true, true, true, true, true, true, true, false, false, false, false, false, false, false, false, false, false, false, false, false, false, false, false, false, false, false, false, false, false, false, false, false, false, false, false] rfl rfl (any_of HT_.out (by kernel_rfl)) (fun _ _ _ h => h) (Or.inl ⟨by rfl, ?_⟩) ?_ ?_
                              rotate_left
                              · intro w'
                                go_simp
                                with_reducible rfl
                              rotate_left
                              · simp only [Act.put, List.setIfInBounds_toArray, List.set_cons_zero, List.set_cons_succ, i64_w, i32_w]
                                rfl
                              refine pure_ (i := 25) (N := some 53) (v := ?_) (a' := ?_) #[true, true, true, true, true, true, true, true, true, true, true, true, true, true, true, true, true, true, true, true, true, true, true, true, true, true, false, false, false, false, false, false, false, false, false, false, false, false, false, false, false, false, false, false, false, false, false, false, false, false, false, false, false] rfl rfl (any_of HT_.out (by kernel_rfl)) (fun _ _ _ h => h) (Or.inl ⟨by rfl, ?_⟩) ?_ ?_
                              rotate_left
                              · intro w'
                                go_simp
                                with_reducible rfl
                              rotate_left
                              · simp only [Act.put, List.setIfInBounds_toArray, List.set_cons_zero, List.set_cons_succ, i64_w, i32_w]
                                rfl
                              refine pure_ (i := 26) (N := some 54) (v := ?_) (a' := ?_) #[true, true, true, true, true, true, true, true, true, true, true, true, true, true, true, true, true, true, true, true, true, true, true, true, true, true, true, false, false, false, false, false, false, false, false, false, false, false, false, false, false, false, false, false, false, false, false, false, false, false, false, false, false] rfl rfl (any_of HT_.out (by kernel_rfl)) (fun _ _ _ h => h) (Or.inl ⟨by rfl, ?_⟩) ?_ ?_
                              rotate_left
                              · intro w'
                                go_simp
                                with_reducible rfl
                              rotate_left
                              · simp only [Act.put, List.setIfInBounds_toArray, List.set_cons_zero, List.set_cons_succ, i64_w, i32_w]
                                rfl
                              refine pure_ (i := 27) (N := some 55) (v := ?_) (a' := ?_) #[true, true, true, true, true, true, true, true, true, true, true, true, true, true, true, true, true, true, true, true, true, true, true, true, true, true, true, true, false, false, false, false, false, false, false, false, false, false, false, false, false, false, false, false, false, false, false, false, false, false, false, false, false] rfl rfl (any_of HT_.out (by kernel_rfl)) (fun _ _ _ h => h) (Or.inl ⟨by rfl, ?_⟩) ?_ ?_
                              rotate_left
                              · intro w'
                                go_simp
                                with_reducible rfl
                              rotate_left
                              · simp only [Act.put, List.setIfInBounds_toArray, List.set_cons_zero, List.set_cons_succ, i64_w, i32_w]
                                rfl
                              refine pure_ (i := 28) (N := some 56) (v := ?_) (a' := ?_) #[true, true, true, true, true, true, true, true, true, true, true, true, true, true, true, true, true, true, true, true, true, true, true, true, true, true, true, true, true, false, false, false, false, false, false, false, false, false, false, false, false, false, false, false, false, false, false, false, false, false, false, false, false] rfl rfl (any_of HT_.out (by kernel_rfl)) (fun _ _ _ h => h) (Or.inl ⟨by rfl, ?_⟩) ?_ ?_
                              rotate_left
                              · intro w'
                                go_simp
                                with_reducible rfl
                              rotate_left
                              · simp only [Act.put, List.setIfInBounds_toArray, List.set_cons_zero, List.set_cons_succ, i64_w, i32_w]
                                rfl
                              refine pure_ (i := 29) (N := some 57) (v := ?_) (a' := ?_) #[true, true, true, true, true, true, true, true, true, true, true, true, true, true, true, true, true, true, true, true, true, true, true, true, true, true, true, true, true, true, false, false, false, false, false, false, false, false, false, false, false, false, false, false, false, false, false, false, false, false, false, false, false] rfl rfl (any_of HT_.out (by kernel_rfl)) (fun _ _ _ h => h) (Or.inl ⟨by rfl, ?_⟩) ?_ ?_
                              rotate_left
                              · intro w'
                                go_simp
                                with_reducible rfl
                              rotate_left
                              · simp only [Act.put, List.setIfInBounds_toArray, List.set_cons_zero, List.set_cons_succ, i64_w, i32_w]
                                rfl
                              refine one_ (i := 30) (N := some 58) #[true, true, true, true, true, true, true, true, true, true, true, true, true, true, true, true, true, true, true, true, true, true, true, true, true, true, true, true, true, true, true, false, false, false, false, false, false, false, false, false, false, false, false, false, false, false, false, false, false, false, false, false, false] rfl rfl (one_of HT_.out (by kernel_rfl)) (by decide) (fun K hK => ?_)
                              refine goes_ Try.func22 (by kernel_rfl) rfl #[.int .i64 4, .int .i64 0] (by rfl) rfl rfl (by (try simp only [List.map_toArray, List.map_cons, List.map_nil]); first | done | rfl | (simp only [List.length_drop, List.length_take]; rfl)) ?_
                              with_reducible refine (L22_left.calls k 4 0 true _ A40.out).mono ?_
                              rintro e w59 ⟨rfl, hb⟩
                              refine ⟨_, rfl, ?_⟩
                              have n0_ := Aside0.mk (Kd.R_below (by (with_reducible repeat (first | apply Kd.R_alloc | apply Kd.R_drewN | apply Kd.R_drew)); exact HO347.out) hb)
                              have n1_ := Aside0.mk (Kd.R_below (by (with_reducible repeat (first | apply Kd.R_alloc | apply Kd.R_drewN | apply Kd.R_drew)); exact HO352.out) hb)
                              have n2_ := Aside0.mk (Kd.R_below (by (with_reducible repeat (first | apply Kd.R_alloc | apply Kd.R_drewN | apply Kd.R_drew)); exact HO360.out) hb)
                              have n3_ := Aside0.mk (Kd.R_below (by (with_reducible repeat (first | apply Kd.R_alloc | apply Kd.R_drewN | apply Kd.R_drew)); exact HO365.out) hb)
                              have n4_ := Aside0.mk (Kd.R_below (by (with_reducible repeat (first | apply Kd.R_alloc | apply Kd.R_drewN | apply Kd.R_drew)); exact HO373.out) hb)
                              have n5_ := Aside0.mk (Kd.R_below (by (with_reducible repeat (first | apply Kd.R_alloc | apply Kd.R_drewN | apply Kd.R_drew)); exact HO378.out) hb)
                              have n6_ := Aside0.mk (Kd.R_below (by (with_reducible repeat (first | apply Kd.R_alloc | apply Kd.R_drewN | apply Kd.R_drew)); exact HO386.out) hb)
                              have n7_ := Aside0.mk (Kd.R_below (by (with_reducible repeat (first | apply Kd.R_alloc | apply Kd.R_drewN | apply Kd.R_drew)); exact HO392.out) hb)
                              have n8_ := Aside0.mk (blk_below (g := gb357) (o := .cells #[.slice Ao12 t350.length co12, .int .i64 t353, .int .i64 t354] 24 (0, 0)) (by (with_reducible repeat (first | refine blk_drewN ?_ _ | refine blk_drew ?_ | refine blk_alloc ?_ _)); exact BK357.out) hb)
                              have n9_ := Aside0.mk (blk_below (g := gb370) (o := .cells #[.slice Ao18 t363.length co18, .int .i64 t366, .int .i64 t367] 24 (0, 0)) (by (with_reducible repeat (first | refine blk_drewN ?_ _ | refine blk_drew ?_ | refine blk_alloc ?_ _)); exact BK370.out) hb)
                              have n10_ := Aside0.mk (blk_below (g := gb383) (o := .cells #[.slice Ao25 t376.length co25, .int .i64 t379, .int .i64 t380] 24 (0, 0)) (by (with_reducible repeat (first | refine blk_drewN ?_ _ | refine blk_drew ?_ | refine blk_alloc ?_ _)); exact BK383.out) hb)
                              have n11_ := Aside0.mk (below_step (by repeat (first | (with_reducible first | exact HB.out | apply below_alloc | apply pw_below_drewN | apply below_drew1 | refine below_set ?_ GE357.out | refine below_set ?_ GE370.out | refine below_set ?_ GE383.out) | exact HB.out)) hb)
                              clear HO347
                              clear HO352
                              clear HO360
                              clear HO365
                              clear HO373
                              clear HO378
                              clear HO386
                              clear HO392
                              clear BK357
                              clear BK370
                              clear BK383
                              clear HB
                              have HO347 := n0_
                              have HO352 := n1_
                              have HO360 := n2_
                              have HO365 := n3_
                              have HO373 := n4_
                              have HO378 := n5_
                              have HO386 := n6_
                              have HO392 := n7_
                              have BK357 := n8_
                              have BK370 := n9_
                              have BK383 := n10_
                              have HB := n11_
                              clear n0_ n1_ n2_ n3_ n4_ n5_ n6_ n7_ n8_ n9_ n10_ n11_
                              (try clear hb)
                              (try clear hb2)
                              (try clear hk)
                              (try clear hi)
                              refine hK.out _ _ ⟨(blk_cell BK357.out 0).trans rfl, (blk_cell BK357.out 1).trans rfl, (blk_cell BK357.out 2).trans rfl, (blk_cell BK383.out 0).trans rfl, (blk_cell BK383.out 1).trans rfl, (blk_cell BK383.out 2).trans rfl⟩ (fun hHeld => ?_)
                              clear hK K
                              refine norm_ (a' := ?_) ?_ ?_
                              rotate_left
                              · show Act.put _ (some 58) _ = _
                                simp only [Act.put, List.setIfInBounds_toArray, List.set_cons_zero, List.set_cons_succ, i64_w, i32_w]
                                rfl
                              refine pure_ (i := 31) (N := some 59) (v := ?_) (a' := ?_) #[true, true, true, true, true, true, true, true, true, true, true, true, true, true, true, true, true, true, true, true, true, true, true, true, true, true, true, true, true, true, true, true, false, false, false, false, false, false, false, false, false, false, false, false, false, false, false, false, false, false, false, false, false] rfl rfl (any_of HT_.out (by kernel_rfl)) (fun _ _ _ h => h) (Or.inl ⟨by rfl, ?_⟩) ?_ ?_
                              rotate_left
                              · intro w'
                                go_simp
                                with_reducible rfl
                              rotate_left
                              · simp only [Act.put, List.setIfInBounds_toArray, List.set_cons_zero, List.set_cons_succ, i64_w, i32_w]
                                rfl
                              refine pure_ (i := 32) (N := some 60) (v := ?_) (a' := ?_) #[true, true, true, true, true, true, true, true, true, true, true, true, true, true, true, true, true, true, true, true, true, true, true, true, true, true, true, true, true, true, true, true, true, false, false, false, false, false, false, false, false, false, false, false, false, false, false, false, false, false, false, false, false] rfl rfl (any_of HT_.out (by kernel_rfl)) (fun _ _ _ h => h) (Or.inl ⟨by rfl, ?_⟩) ?_ ?_
                              rotate_left
                              · intro w'
                                go_simp
                                with_reducible rfl
                              rotate_left
                              · simp only [Act.put, List.setIfInBounds_toArray, List.set_cons_zero, List.set_cons_succ, i64_w, i32_w]
                                rfl
                              refine pure_ (i := 33) (N := some 61) (v := ?_) (a' := ?_) #[true, true, true, true, true, true, true, true, true, true, true, true, true, true, true, true, true, true, true, true, true, true, true, true, true, true, true, true, true, true, true, true, true, true, false, false, false, false, false, false, false, false, false, false, false, false, false, false, false, false, false, false, false] rfl rfl (any_of HT_.out (by kernel_rfl)) (fun _ _ _ h => h) (Or.inl ⟨by rfl, ?_⟩) ?_ ?_
                              rotate_left
                              · intro w'
                                go_simp
                                with_reducible rfl
                              rotate_left
                              · simp only [Act.put, List.setIfInBounds_toArray, List.set_cons_zero, List.set_cons_succ, i64_w, i32_w]
                                rfl
                              refine one_ (i := 34) (N := some 62) #[true, true, true, true, true, true, true, true, true, true, true, true, true, true, true, true, true, true, true, true, true, true, true, true, true, true, true, true, true, true, true, true, true, true, true, false, false, false, false, false, false, false, false, false, false, false, false, false, false, false, false, false, false] rfl rfl (one_of HT_.out (by kernel_rfl)) (by decide) (fun K hK => ?_)
                              refine goes_ Try.func22 (by kernel_rfl) rfl #[.int .i64 5, .int .i64 10] (by rfl) rfl rfl (by (try simp only [List.map_toArray, List.map_cons, List.map_nil]); first | done | rfl | (simp only [List.length_drop, List.length_take]; rfl)) ?_
                              with_reducible refine (L22_left.calls k 5 10 true _ A42.out).mono ?_
                              rintro e w60 ⟨rfl, hb⟩
                              refine ⟨_, rfl, ?_⟩
                              have n0_ := Aside0.mk (Kd.R_below (by (with_reducible repeat (first | apply Kd.R_alloc | apply Kd.R_drewN | apply Kd.R_drew)); exact HO347.out) hb)
                              have n1_ := Aside0.mk (Kd.R_below (by (with_reducible repeat (first | apply Kd.R_alloc | apply Kd.R_drewN | apply Kd.R_drew)); exact HO352.out) hb)
                              have n2_ := Aside0.mk (Kd.R_below (by (with_reducible repeat (first | apply Kd.R_alloc | apply Kd.R_drewN | apply Kd.R_drew)); exact HO360.out) hb)
                              have n3_ := Aside0.mk (Kd.R_below (by (with_reducible repeat (first | apply Kd.R_alloc | apply Kd.R_drewN | apply Kd.R_drew)); exact HO365.out) hb)
                              have n4_ := Aside0.mk (Kd.R_below (by (with_reducible repeat (first | apply Kd.R_alloc | apply Kd.R_drewN | apply Kd.R_drew)); exact HO373.out) hb)
                              have n5_ := Aside0.mk (Kd.R_below (by (with_reducible repeat (first | apply Kd.R_alloc | apply Kd.R_drewN | apply Kd.R_drew)); exact HO378.out) hb)
                              have n6_ := Aside0.mk (Kd.R_below (by (with_reducible repeat (first | apply Kd.R_alloc | apply Kd.R_drewN | apply Kd.R_drew)); exact HO386.out) hb)
                              have n7_ := Aside0.mk (Kd.R_below (by (with_reducible repeat (first | apply Kd.R_alloc | apply Kd.R_drewN | apply Kd.R_drew)); exact HO392.out) hb)
                              have n8_ := Aside0.mk (blk_below (g := gb357) (o := .cells #[.slice Ao12 t350.length co12, .int .i64 t353, .int .i64 t354] 24 (0, 0)) (by (with_reducible repeat (first | refine blk_drewN ?_ _ | refine blk_drew ?_ | refine blk_alloc ?_ _)); exact BK357.out) hb)
                              have n9_ := Aside0.mk (blk_below (g := gb370) (o := .cells #[.slice Ao18 t363.length co18, .int .i64 t366, .int .i64 t367] 24 (0, 0)) (by (with_reducible repeat (first | refine blk_drewN ?_ _ | refine blk_drew ?_ | refine blk_alloc ?_ _)); exact BK370.out) hb)
                              have n10_ := Aside0.mk (blk_below (g := gb383) (o := .cells #[.slice Ao25 t376.length co25, .int .i64 t379, .int .i64 t380] 24 (0, 0)) (by (with_reducible repeat (first | refine blk_drewN ?_ _ | refine blk_drew ?_ | refine blk_alloc ?_ _)); exact BK383.out) hb)
                              have n11_ := Aside0.mk (below_step (by repeat (first | (with_reducible first | exact HB.out | apply below_alloc | apply pw_below_drewN | apply below_drew1 | refine below_set ?_ GE357.out | refine below_set ?_ GE370.out | refine below_set ?_ GE383.out) | exact HB.out)) hb)
                              clear HO347
                              clear HO352
                              clear HO360
                              clear HO365
                              clear HO373
                              clear HO378
                              clear HO386
                              clear HO392
                              clear BK357
                              clear BK370
                              clear BK383
                              clear HB
                              have HO347 := n0_
                              have HO352 := n1_
                              have HO360 := n2_
                              have HO365 := n3_
                              have HO373 := n4_
                              have HO378 := n5_
                              have HO386 := n6_
                              have HO392 := n7_
                              have BK357 := n8_
                              have BK370 := n9_
                              have BK383 := n10_
                              have HB := n11_
                              clear n0_ n1_ n2_ n3_ n4_ n5_ n6_ n7_ n8_ n9_ n10_ n11_
                              (try clear hb)
                              (try clear hb2)
                              (try clear hk)
                              (try clear hi)
                              refine hK.out _ _ ⟨(blk_cell BK357.out 0).trans rfl, (blk_cell BK357.out 1).trans rfl, (blk_cell BK357.out 2).trans rfl, (blk_cell BK383.out 0).trans rfl, (blk_cell BK383.out 1).trans rfl, (blk_cell BK383.out 2).trans rfl⟩ (fun hHeld => ?_)
                              clear hK K
                              refine norm_ (a' := ?_) ?_ ?_
                              rotate_left
                              · show Act.put _ (some 62) _ = _
                                simp only [Act.put, List.setIfInBounds_toArray, List.set_cons_zero, List.set_cons_succ, i64_w, i32_w]
                                rfl
                              refine pure_ (i := 35) (N := some 63) (v := ?_) (a' := ?_) #[true, true, true, true, true, true, true, true, true, true, true, true, true, true, true, true, true, true, true, true, true, true, true, true, true, true, true, true, true, true, true, true, true, true, true, true, false, false, false, false, false, false, false, false, false, false, false, false, false, false, false, false, false] rfl rfl (any_of HT_.out (by kernel_rfl)) (fun _ _ _ h => h) (Or.inl ⟨by rfl, ?_⟩) ?_ ?_
                              rotate_left
                              · intro w'
                                go_simp
                                with_reducible rfl
                              rotate_left
                              · simp only [Act.put, List.setIfInBounds_toArray, List.set_cons_zero, List.set_cons_succ, i64_w, i32_w]
                                rfl
                              refine pure_ (i := 36) (N := some 64) (v := ?_) (a' := ?_) #[true, true, true, true, true, true, true, true, true, true, true, true, true, true, true, true, true, true, true, true, true, true, true, true, true, true, true, true, true, true, true, true, true, true, true, true, true, false, false, false, false, false, false, false, false, false, false, false, false, false, false, false, false] rfl rfl (any_of HT_.out (by kernel_rfl)) (fun _ _ _ h => h) (Or.inl ⟨by rfl, ?_⟩) ?_ ?_
                              rotate_left
                              · intro w'
                                go_simp
                                with_reducible rfl
                              rotate_left
                              · simp only [Act.put, List.setIfInBounds_toArray, List.set_cons_zero, List.set_cons_succ, i64_w, i32_w]
                                rfl
                              refine pure_ (i := 37) (N := some 65) (v := ?_) (a' := ?_) #[true, true, true, true, true, true, true, true, true, true, true, true, true, true, true, true, true, true, true, true, true, true, true, true, true, true, true, true, true, true, true, true, true, true, true, true, true, true, false, false, false, false, false, false, false, false, false, false, false, false, false, false, false] rfl rfl (any_of HT_.out (by kernel_rfl)) (fun _ _ _ h => h) (Or.inl ⟨by rfl, ?_⟩) ?_ ?_
                              rotate_left
                              · intro w'
                                go_simp
                                with_reducible rfl
                              rotate_left
                              · simp only [Act.put, List.setIfInBounds_toArray, List.set_cons_zero, List.set_cons_succ, i64_w, i32_w]
                                rfl
                              refine one_ (i := 38) (N := some 66) #[true, true, true, true, true, true, true, true, true, true, true, true, true, true, true, true, true, true, true, true, true, true, true, true, true, true, true, true, true, true, true, true, true, true, true, true, true, true, true, false, false, false, false, false, false, false, false, false, false, false, false, false, false] rfl rfl (one_of HT_.out (by kernel_rfl)) (by decide) (fun K hK => ?_)
                              refine goes_ Try.func22 (by kernel_rfl) rfl #[.int .i64 15, .int .i64 0] (by rfl) rfl rfl (by (try simp only [List.map_toArray, List.map_cons, List.map_nil]); first | done | rfl | (simp only [List.length_drop, List.length_take]; rfl)) ?_
                              with_reducible refine (L22_left.calls k 15 0 true _ A44.out).mono ?_
                              rintro e w61 ⟨rfl, hb⟩
                              refine ⟨_, rfl, ?_⟩
                              have n0_ := Aside0.mk (Kd.R_below (by (with_reducible repeat (first | apply Kd.R_alloc | apply Kd.R_drewN | apply Kd.R_drew)); exact HO347.out) hb)
                              have n1_ := Aside0.mk (Kd.R_below (by (with_reducible repeat (first | apply Kd.R_alloc | apply Kd.R_drewN | apply Kd.R_drew)); exact HO352.out) hb)
                              have n2_ := Aside0.mk (Kd.R_below (by (with_reducible repeat (first | apply Kd.R_alloc | apply Kd.R_drewN | apply Kd.R_drew)); exact HO360.out) hb)
                              have n3_ := Aside0.mk (Kd.R_below (by (with_reducible repeat (first | apply Kd.R_alloc | apply Kd.R_drewN | apply Kd.R_drew)); exact HO365.out) hb)
                              have n4_ := Aside0.mk (Kd.R_below (by (with_reducible repeat (first | apply Kd.R_alloc | apply Kd.R_drewN | apply Kd.R_drew)); exact HO373.out) hb)
                              have n5_ := Aside0.mk (Kd.R_below (by (with_reducible repeat (first | apply Kd.R_alloc | apply Kd.R_drewN | apply Kd.R_drew)); exact HO378.out) hb)
                              have n6_ := Aside0.mk (Kd.R_below (by (with_reducible repeat (first | apply Kd.R_alloc | apply Kd.R_drewN | apply Kd.R_drew)); exact HO386.out) hb)
                              have n7_ := Aside0.mk (Kd.R_below (by (with_reducible repeat (first | apply Kd.R_alloc | apply Kd.R_drewN | apply Kd.R_drew)); exact HO392.out) hb)
                              have n8_ := Aside0.mk (blk_below (g := gb357) (o := .cells #[.slice Ao12 t350.length co12, .int .i64 t353, .int .i64 t354] 24 (0, 0)) (by (with_reducible repeat (first | refine blk_drewN ?_ _ | refine blk_drew ?_ | refine blk_alloc ?_ _)); exact BK357.out) hb)
                              have n9_ := Aside0.mk (blk_below (g := gb370) (o := .cells #[.slice Ao18 t363.length co18, .int .i64 t366, .int .i64 t367] 24 (0, 0)) (by (with_reducible repeat (first | refine blk_drewN ?_ _ | refine blk_drew ?_ | refine blk_alloc ?_ _)); exact BK370.out) hb)
                              have n10_ := Aside0.mk (blk_below (g := gb383) (o := .cells #[.slice Ao25 t376.length co25, .int .i64 t379, .int .i64 t380] 24 (0, 0)) (by (with_reducible repeat (first | refine blk_drewN ?_ _ | refine blk_drew ?_ | refine blk_alloc ?_ _)); exact BK383.out) hb)
                              have n11_ := Aside0.mk (below_step (by repeat (first | (with_reducible first | exact HB.out | apply below_alloc | apply pw_below_drewN | apply below_drew1 | refine below_set ?_ GE357.out | refine below_set ?_ GE370.out | refine below_set ?_ GE383.out) | exact HB.out)) hb)
                              clear HO347
                              clear HO352
                              clear HO360
                              clear HO365
                              clear HO373
                              clear HO378
                              clear HO386
                              clear HO392
                              clear BK357
                              clear BK370
                              clear BK383
                              clear HB
                              have HO347 := n0_
                              have HO352 := n1_
                              have HO360 := n2_
                              have HO365 := n3_
                              have HO373 := n4_
                              have HO378 := n5_
                              have HO386 := n6_
                              have HO392 := n7_
                              have BK357 := n8_
                              have BK370 := n9_
                              have BK383 := n10_
                              have HB := n11_
                              clear n0_ n1_ n2_ n3_ n4_ n5_ n6_ n7_ n8_ n9_ n10_ n11_
                              (try clear hb)
                              (try clear hb2)
                              (try clear hk)
                              (try clear hi)
                              refine hK.out _ _ ⟨(blk_cell BK357.out 0).trans rfl, (blk_cell BK357.out 1).trans rfl, (blk_cell BK357.out 2).trans rfl, (blk_cell BK383.out 0).trans rfl, (blk_cell BK383.out 1).trans rfl, (blk_cell BK383.out 2).trans rfl⟩ (fun hHeld => ?_)
                              clear hK K
                              refine norm_ (a' := ?_) ?_ ?_
                              rotate_left
                              · show Act.put _ (some 66) _ = _
                                simp only [Act.put, List.setIfInBounds_toArray, List.set_cons_zero, List.set_cons_succ, i64_w, i32_w]
                                rfl
                              refine pure_ (i := 39) (N := some 67) (v := ?_) (a' := ?_) #[true, true, true, true, true, true, true, true, true, true, true, true, true, true, true, true, true, true, true, true, true, true, true, true, true, true, true, true, true, true, true, true, true, true, true, true, true, true, true, true, false, false, false, false, false, false, false, false, false, false, false, false, false] rfl rfl (any_of HT_.out (by kernel_rfl)) (fun _ _ _ h => h) (Or.inl ⟨by rfl, ?_⟩) ?_ ?_
                              rotate_left
                              · intro w'
                                go_simp
                                with_reducible rfl
                              rotate_left
                              · simp only [Act.put, List.setIfInBounds_toArray, List.set_cons_zero, List.set_cons_succ, i64_w, i32_w]
                                rfl
                              refine pure_ (i := 40) (N := some 68) (v := ?_) (a' := ?_) #[true, true, true, true, true, true, true, true, true, true, true, true, true, true, true, true, true, true, true, true, true, true, true, true, true, true, true, true, true, true, true, true, true, true, true, true, true, true, true, true, true, false, false, false, false, false, false, false, false, false, false, false, false] rfl rfl (any_of HT_.out (by kernel_rfl)) (fun _ _ _ h => h) (Or.inl ⟨by rfl, ?_⟩) ?_ ?_
                              rotate_left
                              · intro w'
                                go_simp
                                with_reducible rfl
                              rotate_left
                              · simp only [Act.put, List.setIfInBounds_toArray, List.set_cons_zero, List.set_cons_succ, i64_w, i32_w]
                                rfl
                              refine pure_ (i := 41) (N := some 69) (v := ?_) (a' := ?_) #[true, true, true, true, true, true, true, true, true, true, true, true, true, true, true, true, true, true, true, true, true, true, true, true, true, true, true, true, true, true, true, true, true, true, true, true, true, true, true, true, true, true, false, false, false, false, false, false, false, false, false, false, false] rfl rfl (any_of HT_.out (by kernel_rfl)) (fun _ _ _ h => h) (Or.inl ⟨by rfl, ?_⟩) ?_ ?_
                              rotate_left
                              · intro w'
                                go_simp
                                with_reducible rfl
                              rotate_left
                              · simp only [Act.put, List.setIfInBounds_toArray, List.set_cons_zero, List.set_cons_succ, i64_w, i32_w]
                                rfl
                              refine one_ (i := 42) (N := some 70) #[true, true, true, true, true, true, true, true, true, true, true, true, true, true, true, true, true, true, true, true, true, true, true, true, true, true, true, true, true, true, true, true, true, true, true, true, true, true, true, true, true, true, true, false, false, false, false, false, false, false, false, false, false] rfl rfl (one_of HT_.out (by kernel_rfl)) (by decide) (fun K hK => ?_)
                              refine goes_ Try.func23 (by kernel_rfl) rfl #[.int .i64 5, .int .i64 22, .bool true] (by rfl) rfl rfl (by (try simp only [List.map_toArray, List.map_cons, List.map_nil]); first | done | rfl | (simp only [List.length_drop, List.length_take]; rfl)) ?_
                              with_reducible refine (L22_covers.calls 5 22 true true _ A46.out).mono ?_
                              rintro e w62 ⟨rfl, hb⟩
                              refine ⟨_, rfl, ?_⟩
                              have n0_ := Aside0.mk (Kd.R_below (by (with_reducible repeat (first | apply Kd.R_alloc | apply Kd.R_drewN | apply Kd.R_drew)); exact HO347.out) hb)
                              have n1_ := Aside0.mk (Kd.R_below (by (with_reducible repeat (first | apply Kd.R_alloc | apply Kd.R_drewN | apply Kd.R_drew)); exact HO352.out) hb)
                              have n2_ := Aside0.mk (Kd.R_below (by (with_reducible repeat (first | apply Kd.R_alloc | apply Kd.R_drewN | apply Kd.R_drew)); exact HO360.out) hb)
                              have n3_ := Aside0.mk (Kd.R_below (by (with_reducible repeat (first | apply Kd.R_alloc | apply Kd.R_drewN | apply Kd.R_drew)); exact HO365.out) hb)
                              have n4_ := Aside0.mk (Kd.R_below (by (with_reducible repeat (first | apply Kd.R_alloc | apply Kd.R_drewN | apply Kd.R_drew)); exact HO373.out) hb)
                              have n5_ := Aside0.mk (Kd.R_below (by (with_reducible repeat (first | apply Kd.R_alloc | apply Kd.R_drewN | apply Kd.R_drew)); exact HO378.out) hb)
                              have n6_ := Aside0.mk (Kd.R_below (by (with_reducible repeat (first | apply Kd.R_alloc | apply Kd.R_drewN | apply Kd.R_drew)); exact HO386.out) hb)
                              have n7_ := Aside0.mk (Kd.R_below (by (with_reducible repeat (first | apply Kd.R_alloc | apply Kd.R_drewN | apply Kd.R_drew)); exact HO392.out) hb)
                              have n8_ := Aside0.mk (blk_below (g := gb357) (o := .cells #[.slice Ao12 t350.length co12, .int .i64 t353, .int .i64 t354] 24 (0, 0)) (by (with_reducible repeat (first | refine blk_drewN ?_ _ | refine blk_drew ?_ | refine blk_alloc ?_ _)); exact BK357.out) hb)
                              have n9_ := Aside0.mk (blk_below (g := gb370) (o := .cells #[.slice Ao18 t363.length co18, .int .i64 t366, .int .i64 t367] 24 (0, 0)) (by (with_reducible repeat (first | refine blk_drewN ?_ _ | refine blk_drew ?_ | refine blk_alloc ?_ _)); exact BK370.out) hb)
                              have n10_ := Aside0.mk (blk_below (g := gb383) (o := .cells #[.slice Ao25 t376.length co25, .int .i64 t379, .int .i64 t380] 24 (0, 0)) (by (with_reducible repeat (first | refine blk_drewN ?_ _ | refine blk_drew ?_ | refine blk_alloc ?_ _)); exact BK383.out) hb)
                              have n11_ := Aside0.mk (below_step (by repeat (first | (with_reducible first | exact HB.out | apply below_alloc | apply pw_below_drewN | apply below_drew1 | refine below_set ?_ GE357.out | refine below_set ?_ GE370.out | refine below_set ?_ GE383.out) | exact HB.out)) hb)
                              clear HO347
                              clear HO352
                              clear HO360
                              clear HO365
                              clear HO373
                              clear HO378
                              clear HO386
                              clear HO392
                              clear BK357
                              clear BK370
                              clear BK383
                              clear HB
                              have HO347 := n0_
                              have HO352 := n1_
                              have HO360 := n2_
                              have HO365 := n3_
                              have HO373 := n4_
                              have HO378 := n5_
                              have HO386 := n6_
                              have HO392 := n7_
                              have BK357 := n8_
                              have BK370 := n9_
                              have BK383 := n10_
                              have HB := n11_
                              clear n0_ n1_ n2_ n3_ n4_ n5_ n6_ n7_ n8_ n9_ n10_ n11_
                              (try clear hb)
                              (try clear hb2)
                              (try clear hk)
                              (try clear hi)
                              refine hK.out _ _ ⟨(blk_cell BK357.out 0).trans rfl, (blk_cell BK357.out 1).trans rfl, (blk_cell BK357.out 2).trans rfl, (blk_cell BK383.out 0).trans rfl, (blk_cell BK383.out 1).trans rfl, (blk_cell BK383.out 2).trans rfl⟩ (fun hHeld => ?_)
                              clear hK K
                              refine norm_ (a' := ?_) ?_ ?_
                              rotate_left
                              · show Act.put _ (some 70) _ = _
                                simp only [Act.put, List.setIfInBounds_toArray, List.set_cons_zero, List.set_cons_succ, i64_w, i32_w]
                                rfl
                              refine pure_ (i := 43) (N := some 71) (v := ?_) (a' := ?_) #[true, true, true, true, true, true, true, true, true, true, true, true, true, true, true, true, true, true, true, true, true, true, true, true, true, true, true, true, true, true, true, true, true, true, true, true, true, true, true, true, true, true, true, true, false, false, false, false, false, false, false, false, false] rfl rfl (any_of HT_.out (by kernel_rfl)) (fun _ _ _ h => h) (Or.inl ⟨by rfl, ?_⟩) ?_ ?_
                              rotate_left
                              · intro w'
                                go_simp
                                with_reducible rfl
                              rotate_left
                              · simp only [Act.put, List.setIfInBounds_toArray, List.set_cons_zero, List.set_cons_succ, i64_w, i32_w]
                                rfl
                              refine pure_ (i := 44) (N := some 72) (v := ?_) (a' := ?_) #[true, true, true, true, true, true, true, true, true, true, true, true, true, true, true, true, true, true, true, true, true, true, true, true, true, true, true, true, true, true, true, true, true, true, true, true, true, true, true, true, true, true, true, true, true, false, false, false, false, false, false, false, false] rfl rfl (any_of HT_.out (by kernel_rfl)) (fun _ _ _ h => h) (Or.inl ⟨by rfl, ?_⟩) ?_ ?_
                              rotate_left
                              · intro w'
                                go_simp
                                with_reducible rfl
                              rotate_left
                              · simp only [Act.put, List.setIfInBounds_toArray, List.set_cons_zero, List.set_cons_succ, i64_w, i32_w]
                                rfl
                              refine pure_ (i := 45) (N := some 73) (v := ?_) (a' := ?_) #[true, true, true, true, true, true, true, true, true, true, true, true, true, true, true, true, true, true, true, true, true, true, true, true, true, true, true, true, true, true, true, true, true, true, true, true, true, true, true, true, true, true, true, true, true, true, false, false, false, false, false, false, false] rfl rfl (any_of HT_.out (by kernel_rfl)) (fun _ _ _ h => h) (Or.inl ⟨by rfl, ?_⟩) ?_ ?_
                              rotate_left
                              · intro w'
                                go_simp
                                with_reducible rfl
                              rotate_left
                              · simp only [Act.put, List.setIfInBounds_toArray, List.set_cons_zero, List.set_cons_succ, i64_w, i32_w]
                                rfl
                              refine one_ (i := 46) (N := some 74) #[true, true, true, true, true, true, true, true, true, true, true, true, true, true, true, true, true, true, true, true, true, true, true, true, true, true, true, true, true, true, true, true, true, true, true, true, true, true, true, true, true, true, true, true, true, true, true, false, false, false, false, false, false] rfl rfl (one_of HT_.out (by kernel_rfl)) (by decide) (fun K hK => ?_)
                              refine goes_ Try.func23 (by kernel_rfl) rfl #[.int .i64 5, .int .i64 23, .bool false] (by rfl) rfl rfl (by (try simp only [List.map_toArray, List.map_cons, List.map_nil]); first | done | rfl | (simp only [List.length_drop, List.length_take]; rfl)) ?_
                              with_reducible refine (L22_covers.calls 5 23 false true _ A48.out).mono ?_
                              rintro e w63 ⟨rfl, hb⟩
                              refine ⟨_, rfl, ?_⟩
                              have n0_ := Aside0.mk (Kd.R_below (by (with_reducible repeat (first | apply Kd.R_alloc | apply Kd.R_drewN | apply Kd.R_drew)); exact HO347.out) hb)
                              have n1_ := Aside0.mk (Kd.R_below (by (with_reducible repeat (first | apply Kd.R_alloc | apply Kd.R_drewN | apply Kd.R_drew)); exact HO352.out) hb)
                              have n2_ := Aside0.mk (Kd.R_below (by (with_reducible repeat (first | apply Kd.R_alloc | apply Kd.R_drewN | apply Kd.R_drew)); exact HO360.out) hb)
                              have n3_ := Aside0.mk (Kd.R_below (by (with_reducible repeat (first | apply Kd.R_alloc | apply Kd.R_drewN | apply Kd.R_drew)); exact HO365.out) hb)
                              have n4_ := Aside0.mk (Kd.R_below (by (with_reducible repeat (first | apply Kd.R_alloc | apply Kd.R_drewN | apply Kd.R_drew)); exact HO373.out) hb)
                              have n5_ := Aside0.mk (Kd.R_below (by (with_reducible repeat (first | apply Kd.R_alloc | apply Kd.R_drewN | apply Kd.R_drew)); exact HO378.out) hb)
                              have n6_ := Aside0.mk (Kd.R_below (by (with_reducible repeat (first | apply Kd.R_alloc | apply Kd.R_drewN | apply Kd.R_drew)); exact HO386.out) hb)
                              have n7_ := Aside0.mk (Kd.R_below (by (with_reducible repeat (first | apply Kd.R_alloc | apply Kd.R_drewN | apply Kd.R_drew)); exact HO392.out) hb)
                              have n8_ := Aside0.mk (blk_below (g := gb357) (o := .cells #[.slice Ao12 t350.length co12, .int .i64 t353, .int .i64 t354] 24 (0, 0)) (by (with_reducible repeat (first | refine blk_drewN ?_ _ | refine blk_drew ?_ | refine blk_alloc ?_ _)); exact BK357.out) hb)
                              have n9_ := Aside0.mk (blk_below (g := gb370) (o := .cells #[.slice Ao18 t363.length co18, .int .i64 t366, .int .i64 t367] 24 (0, 0)) (by (with_reducible repeat (first | refine blk_drewN ?_ _ | refine blk_drew ?_ | refine blk_alloc ?_ _)); exact BK370.out) hb)
                              have n10_ := Aside0.mk (blk_below (g := gb383) (o := .cells #[.slice Ao25 t376.length co25, .int .i64 t379, .int .i64 t380] 24 (0, 0)) (by (with_reducible repeat (first | refine blk_drewN ?_ _ | refine blk_drew ?_ | refine blk_alloc ?_ _)); exact BK383.out) hb)
                              have n11_ := Aside0.mk (below_step (by repeat (first | (with_reducible first | exact HB.out | apply below_alloc | apply pw_below_drewN | apply below_drew1 | refine below_set ?_ GE357.out | refine below_set ?_ GE370.out | refine below_set ?_ GE383.out) | exact HB.out)) hb)
                              clear HO347
                              clear HO352
                              clear HO360
                              clear HO365
                              clear HO373
                              clear HO378
                              clear HO386
                              clear HO392
                              clear BK357
                              clear BK370
                              clear BK383
                              clear HB
                              have HO347 := n0_
                              have HO352 := n1_
                              have HO360 := n2_
                              have HO365 := n3_
                              have HO373 := n4_
                              have HO378 := n5_
                              have HO386 := n6_
                              have HO392 := n7_
                              have BK357 := n8_
                              have BK370 := n9_
                              have BK383 := n10_
                              have HB := n11_
                              clear n0_ n1_ n2_ n3_ n4_ n5_ n6_ n7_ n8_ n9_ n10_ n11_
                              (try clear hb)
                              (try clear hb2)
                              (try clear hk)
                              (try clear hi)
                              refine hK.out _ _ ⟨(blk_cell BK357.out 0).trans rfl, (blk_cell BK357.out 1).trans rfl, (blk_cell BK357.out 2).trans rfl, (blk_cell BK383.out 0).trans rfl, (blk_cell BK383.out 1).trans rfl, (blk_cell BK383.out 2).trans rfl⟩ (fun hHeld => ?_)
                              clear hK K
                              refine norm_ (a' := ?_) ?_ ?_
                              rotate_left
                              · show Act.put _ (some 74) _ = _
                                simp only [Act.put, List.setIfInBounds_toArray, List.set_cons_zero, List.set_cons_succ, i64_w, i32_w]
                                rfl
                              refine pure_ (i := 47) (N := some 75) (v := ?_) (a' := ?_) #[true, true, true, true, true, true, true, true, true, true, true, true, true, true, true, true, true, true, true, true, true, true, true, true, true, true, true, true, true, true, true, true, true, true, true, true, true, true, true, true, true, true, true, true, true, true, true, true, false, false, false, false, false] rfl rfl (any_of HT_.out (by kernel_rfl)) (fun _ _ _ h => h) (Or.inl ⟨by rfl, ?_⟩) ?_ ?_
                              rotate_left
                              · intro w'
                                go_simp
                                with_reducible rfl
                              rotate_left
                              · simp only [Act.put, List.setIfInBounds_toArray, List.set_cons_zero, List.set_cons_succ, i64_w, i32_w]
                                rfl
                              refine pure_ (i := 48) (N := some 76) (v := ?_) (a' := ?_) #[true, true, true, true, true, true, true, true, true, true, true, true, true, true, true, true, true, true, true, true, true, true, true, true, true, true, true, true, true, true, true, true, true, true, true, true, true, true, true, true, true, true, true, true, true, true, true, true, true, false, false, false, false] rfl rfl (any_of HT_.out (by kernel_rfl)) (fun _ _ _ h => h) (Or.inl ⟨by rfl, ?_⟩) ?_ ?_
                              rotate_left
                              · intro w'
                                go_simp
                                with_reducible rfl
                              rotate_left
                              · simp only [Act.put, List.setIfInBounds_toArray, List.set_cons_zero, List.set_cons_succ, i64_w, i32_w]
                                rfl
                              refine pure_ (i := 49) (N := some 77) (v := ?_) (a' := ?_) #[true, true, true, true, true, true, true, true, true, true, true, true, true, true, true, true, true, true, true, true, true, true, true, true, true, true, true, true, true, true, true, true, true, true, true, true, true, true, true, true, true, true, true, true, true, true, true, true, true, true, false, false, false] rfl rfl (any_of HT_.out (by kernel_rfl)) (fun _ _ _ h => h) (Or.inl ⟨by rfl, ?_⟩) ?_ ?_
                              rotate_left
                              · intro w'
                                go_simp
                                with_reducible rfl
                              rotate_left
                              · simp only [Act.put, List.setIfInBounds_toArray, List.set_cons_zero, List.set_cons_succ, i64_w, i32_w]
                                rfl
                              refine one_ (i := 50) (N := some 78) #[true, true, true, true, true, true, true, true, true, true, true, true, true, true, true, true, true, true, true, true, true, true, true, true, true, true, true, true, true, true, true, true, true, true, true, true, true, true, true, true, true, true, true, true, true, true, true, true, true, true, true, false, false] rfl rfl (one_of HT_.out (by kernel_rfl)) (by decide) (fun K hK => ?_)
                              refine goes_ Try.func23 (by kernel_rfl) rfl #[.int .i64 22, .int .i64 22, .bool true] (by rfl) rfl rfl (by (try simp only [List.map_toArray, List.map_cons, List.map_nil]); first | done | rfl | (simp only [List.length_drop, List.length_take]; rfl)) ?_
                              with_reducible refine (L22_covers.calls 22 22 true true _ A50.out).mono ?_
                              rintro e w64 ⟨rfl, hb⟩
                              refine ⟨_, rfl, ?_⟩
                              have n0_ := Aside0.mk (Kd.R_below (by (with_reducible repeat (first | apply Kd.R_alloc | apply Kd.R_drewN | apply Kd.R_drew)); exact HO347.out) hb)
                              have n1_ := Aside0.mk (Kd.R_below (by (with_reducible repeat (first | apply Kd.R_alloc | apply Kd.R_drewN | apply Kd.R_drew)); exact HO352.out) hb)
                              have n2_ := Aside0.mk (Kd.R_below (by (with_reducible repeat (first | apply Kd.R_alloc | apply Kd.R_drewN | apply Kd.R_drew)); exact HO360.out) hb)
                              have n3_ := Aside0.mk (Kd.R_below (by (with_reducible repeat (first | apply Kd.R_alloc | apply Kd.R_drewN | apply Kd.R_drew)); exact HO365.out) hb)
                              have n4_ := Aside0.mk (Kd.R_below (by (with_reducible repeat (first | apply Kd.R_alloc | apply Kd.R_drewN | apply Kd.R_drew)); exact HO373.out) hb)
                              have n5_ := Aside0.mk (Kd.R_below (by (with_reducible repeat (first | apply Kd.R_alloc | apply Kd.R_drewN | apply Kd.R_drew)); exact HO378.out) hb)
                              have n6_ := Aside0.mk (Kd.R_below (by (with_reducible repeat (first | apply Kd.R_alloc | apply Kd.R_drewN | apply Kd.R_drew)); exact HO386.out) hb)
                              have n7_ := Aside0.mk (Kd.R_below (by (with_reducible repeat (first | apply Kd.R_alloc | apply Kd.R_drewN | apply Kd.R_drew)); exact HO392.out) hb)
                              have n8_ := Aside0.mk (blk_below (g := gb357) (o := .cells #[.slice Ao12 t350.length co12, .int .i64 t353, .int .i64 t354] 24 (0, 0)) (by (with_reducible repeat (first | refine blk_drewN ?_ _ | refine blk_drew ?_ | refine blk_alloc ?_ _)); exact BK357.out) hb)
                              have n9_ := Aside0.mk (blk_below (g := gb370) (o := .cells #[.slice Ao18 t363.length co18, .int .i64 t366, .int .i64 t367] 24 (0, 0)) (by (with_reducible repeat (first | refine blk_drewN ?_ _ | refine blk_drew ?_ | refine blk_alloc ?_ _)); exact BK370.out) hb)
                              have n10_ := Aside0.mk (blk_below (g := gb383) (o := .cells #[.slice Ao25 t376.length co25, .int .i64 t379, .int .i64 t380] 24 (0, 0)) (by (with_reducible repeat (first | refine blk_drewN ?_ _ | refine blk_drew ?_ | refine blk_alloc ?_ _)); exact BK383.out) hb)
                              have n11_ := Aside0.mk (below_step (by repeat (first | (with_reducible first | exact HB.out | apply below_alloc | apply pw_below_drewN | apply below_drew1 | refine below_set ?_ GE357.out | refine below_set ?_ GE370.out | refine below_set ?_ GE383.out) | exact HB.out)) hb)
                              clear HO347
                              clear HO352
                              clear HO360
                              clear HO365
                              clear HO373
                              clear HO378
                              clear HO386
                              clear HO392
                              clear BK357
                              clear BK370
                              clear BK383
                              clear HB
                              have HO347 := n0_
                              have HO352 := n1_
                              have HO360 := n2_
                              have HO365 := n3_
                              have HO373 := n4_
                              have HO378 := n5_
                              have HO386 := n6_
                              have HO392 := n7_
                              have BK357 := n8_
                              have BK370 := n9_
                              have BK383 := n10_
                              have HB := n11_
                              clear n0_ n1_ n2_ n3_ n4_ n5_ n6_ n7_ n8_ n9_ n10_ n11_
                              (try clear hb)
                              (try clear hb2)
                              (try clear hk)
                              (try clear hi)
                              refine hK.out _ _ ⟨(blk_cell BK357.out 0).trans rfl, (blk_cell BK357.out 1).trans rfl, (blk_cell BK357.out 2).trans rfl, (blk_cell BK383.out 0).trans rfl, (blk_cell BK383.out 1).trans rfl, (blk_cell BK383.out 2).trans rfl⟩ (fun hHeld => ?_)
                              clear hK K
                              refine norm_ (a' := ?_) ?_ ?_
                              rotate_left
                              · show Act.put _ (some 78) _ = _
                                simp only [Act.put, List.setIfInBounds_toArray, List.set_cons_zero, List.set_cons_succ, i64_w, i32_w]
                                rfl
                              refine pure_ (i := 51) (N := some 79) (v := ?_) (a' := ?_) #[true, true, true, true, true, true, true, true, true, true, true, true, true, true, true, true, true, true, true, true, true, true, true, true, true, true, true, true, true, true, true, true, true, true, true, true, true, true, true, true, true, true, true, true, true, true, true, true, true, true, true, true, false] rfl rfl (any_of HT_.out (by kernel_rfl)) (fun _ _ _ h => h) (Or.inl ⟨by rfl, ?_⟩) ?_ ?_
                              rotate_left
                              · intro w'
                                go_simp
                                with_reducible rfl
                              rotate_left
                              · simp only [Act.put, List.setIfInBounds_toArray, List.set_cons_zero, List.set_cons_succ, i64_w, i32_w]
                                rfl
                              refine pure_ (i := 52) (N := some 80) (v := ?_) (a' := ?_) #[true, true, true, true, true, true, true, true, true, true, true, true, true, true, true, true, true, true, true, true, true, true, true, true, true, true, true, true, true, true, true, true, true, true, true, true, true, true, true, true, true, true, true, true, true, true, true, true, true, true, true, true, true] rfl rfl (any_of HT_.out (by kernel_rfl)) (fun _ _ _ h => h) (Or.inl ⟨by rfl, ?_⟩) ?_ ?_
                              rotate_left
                              · intro w'
                                go_simp
                                with_reducible rfl
                              rotate_left
                              · simp only [Act.put, List.setIfInBounds_toArray, List.set_cons_zero, List.set_cons_succ, i64_w, i32_w]
                                rfl
                              refine done_ (done_of HT_.out (by kernel_rfl)) ?_
                              try go_wp2
                              go_meet
                              case rel => exact ⟨_, (false), (by first | rfl | (simp; done) | (simp [*]; done)), H', ⟨by first | omega | exact Nat.le_refl _⟩, ⟨by (with_reducible repeat (first | apply Kd.R_alloc | apply Kd.R_drewN | apply Kd.R_drew)); exact Kd.R_mono HO352.out (fun _ hk => ⟨hk.1.1.2.2.1, hk.1.1.2.2.2.2⟩)⟩, ⟨by (with_reducible repeat (first | apply Kd.R_alloc | apply Kd.R_drewN | apply Kd.R_drew)); exact Kd.R_mono HO365.out (fun _ hk => ⟨hk.1.1.2.1, hk.1.1.2.2.2.2⟩)⟩, ⟨by (with_reducible repeat (first | apply Kd.R_alloc | apply Kd.R_drewN | apply Kd.R_drew)); exact Kd.R_mono HO378.out (fun _ hk => ⟨hk.1.1.2.1, hk.1.1.2.2.2.1⟩)⟩, ⟨by (with_reducible repeat (first | refine blk_drewN ?_ _ | refine blk_drew ?_ | refine blk_alloc ?_ _)); exact BK357.out⟩, ⟨by (with_reducible repeat (first | refine blk_drewN ?_ _ | refine blk_drew ?_ | refine blk_alloc ?_ _)); exact BK370.out⟩, ⟨by (with_reducible repeat (first | refine blk_drewN ?_ _ | refine blk_drew ?_ | refine blk_alloc ?_ _)); exact BK383.out⟩, ⟨by repeat (first | (with_reducible first | exact HB.out | apply below_alloc | apply pw_below_drewN | apply below_drew1 | refine below_set ?_ GE357.out | refine below_set ?_ GE370.out | refine below_set ?_ GE383.out) | exact HB.out)⟩⟩
                          · replace c49 := Bool.eq_false_iff.mpr c49
                            subst c49
                            have H1 : (L22_KeyKnown.j0 k true) = some true := by rw [if_neg (show ¬ (false = true) by decide)] at H; exact H
                            clear H
                            have H := H1
                            clear H1
                            exact absurd H (by repeat (first | exact never_none | exact never_false | refine never_ite ?_ ?_ | refine never_bind (fun _ => ?_) | exact L22_KeyKnown.j0_d80true _))
                        · replace c47 := Bool.eq_false_iff.mpr c47
                          subst c47
                          have H1 : (L22_KeyKnown.j0 k true) = some true := by rw [if_neg (show ¬ (false = true) by decide)] at H; exact H
                          clear H
                          have H := H1
                          clear H1
                          exact absurd H (by repeat (first | exact never_none | exact never_false | refine never_ite ?_ ?_ | refine never_bind (fun _ => ?_) | exact L22_KeyKnown.j0_d80true _))
                      · replace c45 := Bool.eq_false_iff.mpr c45
                        subst c45
                        have H1 : (L22_KeyKnown.j0 k true) = some true := by rw [if_neg (show ¬ (false = true) by decide)] at H; exact H
                        clear H
                        have H := H1
                        clear H1
                        exact absurd H (by repeat (first | exact never_none | exact never_false | refine never_ite ?_ ?_ | refine never_bind (fun _ => ?_) | exact L22_KeyKnown.j0_d80true _))
                    · replace c43 := Bool.eq_false_iff.mpr c43
                      subst c43
                      have H1 : (L22_KeyKnown.j0 k true) = some true := by rw [if_neg (show ¬ (false = true) by decide)] at H; exact H
                      clear H
                      have H := H1
                      clear H1
                      exact absurd H (by repeat (first | exact never_none | exact never_false | refine never_ite ?_ ?_ | refine never_bind (fun _ => ?_) | exact L22_KeyKnown.j0_d80true _))
                  · replace c41 := Bool.eq_false_iff.mpr c41
                    subst c41
                    have H1 : (L22_KeyKnown.j0 k true) = some true := by rw [if_neg (show ¬ (false = true) by decide)] at H; exact H
                    clear H
                    have H := H1
                    clear H1
                    exact absurd H (by repeat (first | exact never_none | exact never_false | refine never_ite ?_ ?_ | refine never_bind (fun _ => ?_) | exact L22_KeyKnown.j0_d80true _))
                · rw [if_neg c39] at H
                  have c39b0 : (t382 == 0) = false := beq_eq_false_iff_ne.mpr c39
                  have c39b1 : (t382 != 0) = true := bne_iff_ne.mpr c39
                  exact absurd H (by repeat (first | exact never_none | exact never_false | refine never_ite ?_ ?_ | refine never_bind (fun _ => ?_) | exact L22_KeyKnown.j0_d80true _))
              · replace c38 := Bool.eq_false_iff.mpr c38
                subst c38
                have H1 : (L22_KeyKnown.j0 k true) = some true := by rw [if_neg (show ¬ (false = true) by decide)] at H; exact H
                clear H
                have H := H1
                clear H1
                exact absurd H (by repeat (first | exact never_none | exact never_false | refine never_ite ?_ ?_ | refine never_bind (fun _ => ?_) | exact L22_KeyKnown.j0_d80true _))
            · replace c37 := Bool.eq_false_iff.mpr c37
              subst c37
              have H1 : (L22_KeyKnown.j0 k true) = some true := by rw [if_neg (show ¬ (false = true) by decide)] at H; exact H
              clear H
              have H := H1
              clear H1
              exact absurd H (by repeat (first | exact never_none | exact never_false | refine never_ite ?_ ?_ | refine never_bind (fun _ => ?_) | exact L22_KeyKnown.j0_d80true _))
          · rw [if_neg c34] at H
            have c34b0 : (t369 == 8) = false := beq_eq_false_iff_ne.mpr c34
            have c34b1 : (t369 != 8) = true := bne_iff_ne.mpr c34
            exact absurd H (by repeat (first | exact never_none | exact never_false | refine never_ite ?_ ?_ | refine never_bind (fun _ => ?_) | exact L22_KeyKnown.j0_d80true _))
        · rw [if_neg c33] at H
          have c33b0 : (t356 == 0) = false := beq_eq_false_iff_ne.mpr c33
          have c33b1 : (t356 != 0) = true := bne_iff_ne.mpr c33
          (first | rw [c33b0] | (simp only [i64_w, i32_w]; rw [c33b0]) | skip)
          exact absurd H (by repeat (first | exact never_none | exact never_false | refine never_ite ?_ ?_ | refine never_bind (fun _ => ?_) | exact L22_KeyKnown.j0_d80true _))
    · replace c31 := Bool.eq_false_iff.mpr c31
      subst c31
      have H1 : (L22_KeyKnown.j0 k true) = some true := by rw [if_neg (show ¬ (false = true) by decide)] at H; exact H
      clear H
      have H := H1
      clear H1
      exact absurd H (by repeat (first | exact never_none | exact never_false | refine never_ite ?_ ?_ | refine never_bind (fun _ => ?_) | exact L22_KeyKnown.j0_d80true _))
  case rest =>
    clear HC7
    try clear c2
    try clear p2
    try clear c3
    try clear c4
    try clear c22
    try clear c23
    try clear c31
    try clear c33
    try clear c33b0
    try clear c33b1
    try clear c34
    try clear c34b0
    try clear c34b1
    try clear c37
    try clear c38
    try clear c39
    try clear c39b0
    try clear c39b1
    try clear c41
    try clear c43
    try clear c45
    try clear c47
    try clear c49
    obtain ⟨kq, x80_6, rfl, HA, HJ6, HO_358000, HO_371000, HO_384000, BK357, BK370, BK383, HB⟩ := hcut
    cases kq with
    | zero => exact absurd HA.out (by simp [L22_KeyKnown.j0])
    | succ kj6 =>
      have H := HA.out
      clear HA
      simp only [L22_KeyKnown.j0] at H
      by_cases c65 : x80_6 = true
      · subst c65
        have H1 : (some false) = some true := by rw [if_pos rfl] at H; exact H
        clear H
        have H := H1
        clear H1
        exact absurd H (by repeat (first | exact never_none | exact never_false | refine never_ite ?_ ?_ | refine never_bind (fun _ => ?_) | exact L22_KeyKnown.j0_d80true _))
      · replace c65 := Bool.eq_false_iff.mpr c65
        subst c65
        have H1 : ((key_New.f kj6 (([7, 7] : List Int)) 10).bind fun bt405 => ((key_New.f kj6 (([0] : List Int)) 10).bind fun bt414 => ((key_New.f kj6 (([7, 42] : List Int)) 0).bind fun bt423 => (if bt405.2.2.2 = 8 then (if bt414.2.2.2 = 2 then (if bt423.2.2.2 = 2 then ((L22_awake.f kj6).bind fun t429 => (some t429)) else (some false)) else (some false)) else (some false))))) = some true := by rw [if_neg (show ¬ (false = true) by decide)] at H; exact H
        clear H
        have H := H1
        clear H1
        obtain ⟨y402, hy402⟩ : ∃ y_ : List Int, y_ = (([7, 7] : List Int)) := ⟨_, rfl⟩
        replace H : ((key_New.f kj6 y402 10).bind fun bt405 => ((key_New.f kj6 (([0] : List Int)) 10).bind fun bt414 => ((key_New.f kj6 (([7, 42] : List Int)) 0).bind fun bt423 => (if bt405.2.2.2 = 8 then (if bt414.2.2.2 = 2 then (if bt423.2.2.2 = 2 then ((L22_awake.f kj6).bind fun t429 => (some t429)) else (some false)) else (some false)) else (some false))))) = some true := by first | (rw [hy402]; with_reducible exact H) | (have H2_ := (Option.bind_some _ _).symm.trans H; rw [hy402]; with_reducible exact H2_) | (have H2_ := (Option.bind_some _ _).symm.trans H; with_reducible exact H2_) | with_reducible exact H | (rw [hy402]; exact H) | exact H
        have Ny402 := Aside0.mk hy402
        clear hy402
        replace H := Option.bind_eq_some_iff.mp H
        obtain ⟨⟨t405, t408, t409, t410⟩, A660, H⟩ := H
        replace H : ((key_New.f kj6 (([0] : List Int)) 10).bind fun bt414 => ((key_New.f kj6 (([7, 42] : List Int)) 0).bind fun bt423 => (if t410 = 8 then (if bt414.2.2.2 = 2 then (if bt423.2.2.2 = 2 then ((L22_awake.f kj6).bind fun t429 => (some t429)) else (some false)) else (some false)) else (some false)))) = some true := H
        have A66 := Aside0.mk A660
        clear A660
        obtain ⟨y411, hy411⟩ : ∃ y_ : List Int, y_ = (([0] : List Int)) := ⟨_, rfl⟩
        replace H : ((key_New.f kj6 y411 10).bind fun bt414 => ((key_New.f kj6 (([7, 42] : List Int)) 0).bind fun bt423 => (if t410 = 8 then (if bt414.2.2.2 = 2 then (if bt423.2.2.2 = 2 then ((L22_awake.f kj6).bind fun t429 => (some t429)) else (some false)) else (some false)) else (some false)))) = some true := by first | (rw [hy411]; with_reducible exact H) | (have H2_ := (Option.bind_some _ _).symm.trans H; rw [hy411]; with_reducible exact H2_) | (have H2_ := (Option.bind_some _ _).symm.trans H; with_reducible exact H2_) | with_reducible exact H | (rw [hy411]; exact H) | exact H
        have Ny411 := Aside0.mk hy411
        clear hy411
        replace H := Option.bind_eq_some_iff.mp H
        obtain ⟨⟨t414, t417, t418, t419⟩, A670, H⟩ := H
        replace H : ((key_New.f kj6 (([7, 42] : List Int)) 0).bind fun bt423 => (if t410 = 8 then (if t419 = 2 then (if bt423.2.2.2 = 2 then ((L22_awake.f kj6).bind fun t429 => (some t429)) else (some false)) else (some false)) else (some false))) = some true := H
        have A67 := Aside0.mk A670
        clear A670
        obtain ⟨y420, hy420⟩ : ∃ y_ : List Int, y_ = (([7, 42] : List Int)) := ⟨_, rfl⟩
        replace H : ((key_New.f kj6 y420 0).bind fun bt423 => (if t410 = 8 then (if t419 = 2 then (if bt423.2.2.2 = 2 then ((L22_awake.f kj6).bind fun t429 => (some t429)) else (some false)) else (some false)) else (some false))) = some true := by first | (rw [hy420]; with_reducible exact H) | (have H2_ := (Option.bind_some _ _).symm.trans H; rw [hy420]; with_reducible exact H2_) | (have H2_ := (Option.bind_some _ _).symm.trans H; with_reducible exact H2_) | with_reducible exact H | (rw [hy420]; exact H) | exact H
        have Ny420 := Aside0.mk hy420
        clear hy420
        replace H := Option.bind_eq_some_iff.mp H
        obtain ⟨⟨t423, t426, t427, t428⟩, A680, H⟩ := H
        replace H : (if t410 = 8 then (if t419 = 2 then (if t428 = 2 then ((L22_awake.f kj6).bind fun t429 => (some t429)) else (some false)) else (some false)) else (some false)) = some true := H
        have A68 := Aside0.mk A680
        clear A680
        by_cases c69 : t410 = 8
        · rw [if_pos c69] at H
          have c69b0 : (t410 == 8) = true := beq_iff_eq.mpr c69
          have c69b1 : (t410 != 8) = false := bne_eq_false_iff_eq.mpr c69
          clear c69
          by_cases c70 : t419 = 2
          · rw [if_pos c70] at H
            have c70b0 : (t419 == 2) = true := beq_iff_eq.mpr c70
            have c70b1 : (t419 != 2) = false := bne_eq_false_iff_eq.mpr c70
            clear c70
            by_cases c71 : t428 = 2
            · rw [if_pos c71] at H
              have c71b0 : (t428 == 2) = true := beq_iff_eq.mpr c71
              have c71b1 : (t428 != 2) = false := bne_eq_false_iff_eq.mpr c71
              clear c71
              replace H := Option.bind_eq_some_iff.mp H
              obtain ⟨t429, A720, H⟩ := H
              replace H : (some t429) = some true := H
              have A72 := Aside0.mk A720
              clear A720
              have Ht_ := Option.some.inj H
              clear H
              subst Ht_
              have H : (some true : Option Bool) = some true := rfl
              clear H
              go_wp2_with (first | ((with_reducible refine gate_dst (N := 82) rfl ?_); refine Kd.R_lit (Kd.int .i64) _ 3 ?hg (N := 82) ?hd (xs := ([7, 7] : List Int)) (inner := [.int .i64 7, .int .i64 7]) (ok := fun _ => True) (okp := fun _ => True) ?hr ?hp (fun _ hk => hk) trivial (Below.refl _ _) (Nat.le_refl _) (by simp) ?_; (case hd => rfl); (case hg => rfl); (case hr => first | (go_simp; done) | (go_simp; rfl)); (case hp => exact (Reps.one (show Kd.M (Kd.int .i64) _ _ _ 7 [.int .i64 7] from rfl) (Reps.one (show Kd.M (Kd.int .i64) _ _ _ 7 [.int .i64 7] from rfl) (Reps.none _ _)))); intro v403 w73 ho74 hb hg_ hnew_; clear hg_ hnew_; (first | rw [← Ny402.out] at ho74 | (simp only [Int.reduceToNat] at ho74; rw [← Ny402.out] at ho74)); have n0_ := Aside0.mk (Kd.R_elder' (by (with_reducible repeat (first | apply Kd.R_alloc | apply Kd.R_drewN | apply Kd.R_drew)); exact HO_358000.out) (Kd.R_base ho74) hb); have n1_ := Aside0.mk (Kd.R_elder' (by (with_reducible repeat (first | apply Kd.R_alloc | apply Kd.R_drewN | apply Kd.R_drew)); exact HO_371000.out) (Kd.R_base ho74) hb); have n2_ := Aside0.mk (Kd.R_elder' (by (with_reducible repeat (first | apply Kd.R_alloc | apply Kd.R_drewN | apply Kd.R_drew)); exact HO_384000.out) (Kd.R_base ho74) hb); have n3_ := Aside0.mk (Kd.R_lower (Kd.R_new' (Kd.R_new' (Kd.R_new' ho74 (Kd.R_lt (by (with_reducible repeat (first | apply Kd.R_alloc | apply Kd.R_drewN | apply Kd.R_drew)); exact HO_358000.out))) (Kd.R_lt (by (with_reducible repeat (first | apply Kd.R_alloc | apply Kd.R_drewN | apply Kd.R_drew)); exact HO_371000.out))) (Kd.R_lt (by (with_reducible repeat (first | apply Kd.R_alloc | apply Kd.R_drewN | apply Kd.R_drew)); exact HO_384000.out))) (below_size (by repeat (first | (with_reducible first | exact HB.out | apply below_alloc | apply pw_below_drewN | apply below_drew1 | refine below_set ?_ GE357.out | refine below_set ?_ GE370.out | refine below_set ?_ GE383.out) | exact HB.out)))); have n4_ := Aside0.mk (blk_below (g := gb357) (o := .cells #[.slice Ao12 t350.length co12, .int .i64 t353, .int .i64 t354] 24 (0, 0)) (by (with_reducible repeat (first | refine blk_drewN ?_ _ | refine blk_drew ?_ | refine blk_alloc ?_ _)); exact BK357.out) hb); have n5_ := Aside0.mk (blk_below (g := gb370) (o := .cells #[.slice Ao18 t363.length co18, .int .i64 t366, .int .i64 t367] 24 (0, 0)) (by (with_reducible repeat (first | refine blk_drewN ?_ _ | refine blk_drew ?_ | refine blk_alloc ?_ _)); exact BK370.out) hb); have n6_ := Aside0.mk (blk_below (g := gb383) (o := .cells #[.slice Ao25 t376.length co25, .int .i64 t379, .int .i64 t380] 24 (0, 0)) (by (with_reducible repeat (first | refine blk_drewN ?_ _ | refine blk_drew ?_ | refine blk_alloc ?_ _)); exact BK383.out) hb); have n7_ := Aside0.mk (below_step (by repeat (first | (with_reducible first | exact HB.out | apply below_alloc | apply pw_below_drewN | apply below_drew1 | refine below_set ?_ GE357.out | refine below_set ?_ GE370.out | refine below_set ?_ GE383.out) | exact HB.out)) hb); clear HO_358000; clear HO_371000; clear HO_384000; clear BK357; clear BK370; clear BK383; clear HB; have HO_358000 := n0_; have HO_371000 := n1_; have HO_384000 := n2_; have HO404 := n3_; have BK357 := n4_; have BK370 := n5_; have BK383 := n6_; have HB := n7_; clear n0_ n1_ n2_ n3_ n4_ n5_ n6_ n7_; clear hb ho74; obtain ⟨Ao75, co75, eo75⟩ := Kd.R_slice HO404.out; subst eo75) | ((with_reducible refine gate_callee (f := 7) rfl ?_); refine goesL_ (some 83) rfl rfl Try.func7 (by kernel_rfl) rfl #[.slice Ao75 y402.length co75, .int .i64 10] rfl (by (try simp only [List.map_toArray, List.map_cons, List.map_nil]); first | done | rfl | (simp only [List.length_drop, List.length_take]; rfl)) ?_; (with_reducible refine (key_New.calls kj6 _ _ y402 10 t405 t408 t409 t410 _ ?side1 ?side2 A66.out).mono ?_); (case side1 => repeat (first | exact (Kd.R_reads' HO404.out).2.2 | (with_reducible refine Kd.C_alloc ?_ _) | (with_reducible refine Kd.C_drewN ?_ _) | (with_reducible refine Kd.C_drew ?_))); (case side2 => exact (Kd.R_reads' HO404.out).2.1); rintro e w76 ⟨v406, rfl, ho0, hb⟩; refine ⟨_, rfl, ?_⟩; have n0_ := Aside0.mk (Kd.R_elder' (by (with_reducible repeat (first | apply Kd.R_alloc | apply Kd.R_drewN | apply Kd.R_drew)); exact HO_358000.out) (Kd.R_base ho0) hb); have n1_ := Aside0.mk (Kd.R_elder' (by (with_reducible repeat (first | apply Kd.R_alloc | apply Kd.R_drewN | apply Kd.R_drew)); exact HO_371000.out) (Kd.R_base ho0) hb); have n2_ := Aside0.mk (Kd.R_elder' (by (with_reducible repeat (first | apply Kd.R_alloc | apply Kd.R_drewN | apply Kd.R_drew)); exact HO_384000.out) (Kd.R_base ho0) hb); have n3_ := Aside0.mk (Kd.R_elder' (by (with_reducible repeat (first | apply Kd.R_alloc | apply Kd.R_drewN | apply Kd.R_drew)); exact HO404.out) (Kd.R_base ho0) hb); have n4_ := Aside0.mk (Kd.R_lower (Kd.R_new' (Kd.R_new' (Kd.R_new' (Kd.R_new' ho0 (Kd.R_lt (by (with_reducible repeat (first | apply Kd.R_alloc | apply Kd.R_drewN | apply Kd.R_drew)); exact HO_358000.out))) (Kd.R_lt (by (with_reducible repeat (first | apply Kd.R_alloc | apply Kd.R_drewN | apply Kd.R_drew)); exact HO_371000.out))) (Kd.R_lt (by (with_reducible repeat (first | apply Kd.R_alloc | apply Kd.R_drewN | apply Kd.R_drew)); exact HO_384000.out))) (Kd.R_lt (by (with_reducible repeat (first | apply Kd.R_alloc | apply Kd.R_drewN | apply Kd.R_drew)); exact HO404.out))) (below_size (by repeat (first | (with_reducible first | exact HB.out | apply below_alloc | apply pw_below_drewN | apply below_drew1 | refine below_set ?_ GE357.out | refine below_set ?_ GE370.out | refine below_set ?_ GE383.out) | exact HB.out)))); have n5_ := Aside0.mk (blk_below (g := gb357) (o := .cells #[.slice Ao12 t350.length co12, .int .i64 t353, .int .i64 t354] 24 (0, 0)) (by (with_reducible repeat (first | refine blk_drewN ?_ _ | refine blk_drew ?_ | refine blk_alloc ?_ _)); exact BK357.out) hb); have n6_ := Aside0.mk (blk_below (g := gb370) (o := .cells #[.slice Ao18 t363.length co18, .int .i64 t366, .int .i64 t367] 24 (0, 0)) (by (with_reducible repeat (first | refine blk_drewN ?_ _ | refine blk_drew ?_ | refine blk_alloc ?_ _)); exact BK370.out) hb); have n7_ := Aside0.mk (blk_below (g := gb383) (o := .cells #[.slice Ao25 t376.length co25, .int .i64 t379, .int .i64 t380] 24 (0, 0)) (by (with_reducible repeat (first | refine blk_drewN ?_ _ | refine blk_drew ?_ | refine blk_alloc ?_ _)); exact BK383.out) hb); have n8_ := Aside0.mk (below_step (by repeat (first | (with_reducible first | exact HB.out | apply below_alloc | apply pw_below_drewN | apply below_drew1 | refine below_set ?_ GE357.out | refine below_set ?_ GE370.out | refine below_set ?_ GE383.out) | exact HB.out)) hb); clear HO_358000; clear HO_371000; clear HO_384000; clear HO404; clear BK357; clear BK370; clear BK383; clear HB; have HO_358000 := n0_; have HO_371000 := n1_; have HO_384000 := n2_; have HO404 := n3_; have HO407 := n4_; have BK357 := n5_; have BK370 := n6_; have BK383 := n7_; have HB := n8_; clear n0_ n1_ n2_ n3_ n4_ n5_ n6_ n7_ n8_; (try clear hb); (try clear hb2); (try clear hk); (try clear hi); (try clear ho0)) | ((with_reducible refine gate_dst (N := 87) rfl ?_); refine Kd.R_lit (Kd.int .i64) _ 3 ?hg (N := 87) ?hd (xs := ([0] : List Int)) (inner := [.int .i64 0]) (ok := fun _ => True) (okp := fun _ => True) ?hr ?hp (fun _ hk => hk) trivial (Below.refl _ _) (Nat.le_refl _) (by simp) ?_; (case hd => rfl); (case hg => rfl); (case hr => first | (go_simp; done) | (go_simp; rfl)); (case hp => exact (Reps.one (show Kd.M (Kd.int .i64) _ _ _ 0 [.int .i64 0] from rfl) (Reps.none _ _))); intro v412 w77 ho78 hb hg_ hnew_; clear hg_ hnew_; (first | rw [← Ny411.out] at ho78 | (simp only [Int.reduceToNat] at ho78; rw [← Ny411.out] at ho78)); have n0_ := Aside0.mk (Kd.R_elder' (by (with_reducible repeat (first | apply Kd.R_alloc | apply Kd.R_drewN | apply Kd.R_drew)); exact HO_358000.out) (Kd.R_base ho78) hb); have n1_ := Aside0.mk (Kd.R_elder' (by (with_reducible repeat (first | apply Kd.R_alloc | apply Kd.R_drewN | apply Kd.R_drew)); exact HO_371000.out) (Kd.R_base ho78) hb); have n2_ := Aside0.mk (Kd.R_elder' (by (with_reducible repeat (first | apply Kd.R_alloc | apply Kd.R_drewN | apply Kd.R_drew)); exact HO_384000.out) (Kd.R_base ho78) hb); have n3_ := Aside0.mk (Kd.R_elder' (by (with_reducible repeat (first | apply Kd.R_alloc | apply Kd.R_drewN | apply Kd.R_drew)); exact HO404.out) (Kd.R_base ho78) hb); have n4_ := Aside0.mk (Kd.R_elder' (by (with_reducible repeat (first | apply Kd.R_alloc | apply Kd.R_drewN | apply Kd.R_drew)); exact HO407.out) (Kd.R_base ho78) hb); have n5_ := Aside0.mk (Kd.R_lower (Kd.R_new' (Kd.R_new' (Kd.R_new' (Kd.R_new' (Kd.R_new' ho78 (Kd.R_lt (by (with_reducible repeat (first | apply Kd.R_alloc | apply Kd.R_drewN | apply Kd.R_drew)); exact HO_358000.out))) (Kd.R_lt (by (with_reducible repeat (first | apply Kd.R_alloc | apply Kd.R_drewN | apply Kd.R_drew)); exact HO_371000.out))) (Kd.R_lt (by (with_reducible repeat (first | apply Kd.R_alloc | apply Kd.R_drewN | apply Kd.R_drew)); exact HO_384000.out))) (Kd.R_lt (by (with_reducible repeat (first | apply Kd.R_alloc | apply Kd.R_drewN | apply Kd.R_drew)); exact HO404.out))) (Kd.R_lt (by (with_reducible repeat (first | apply Kd.R_alloc | apply Kd.R_drewN | apply Kd.R_drew)); exact HO407.out))) (below_size (by repeat (first | (with_reducible first | exact HB.out | apply below_alloc | apply pw_below_drewN | apply below_drew1 | refine below_set ?_ GE357.out | refine below_set ?_ GE370.out | refine below_set ?_ GE383.out) | exact HB.out)))); have n6_ := Aside0.mk (blk_below (g := gb357) (o := .cells #[.slice Ao12 t350.length co12, .int .i64 t353, .int .i64 t354] 24 (0, 0)) (by (with_reducible repeat (first | refine blk_drewN ?_ _ | refine blk_drew ?_ | refine blk_alloc ?_ _)); exact BK357.out) hb); have n7_ := Aside0.mk (blk_below (g := gb370) (o := .cells #[.slice Ao18 t363.length co18, .int .i64 t366, .int .i64 t367] 24 (0, 0)) (by (with_reducible repeat (first | refine blk_drewN ?_ _ | refine blk_drew ?_ | refine blk_alloc ?_ _)); exact BK370.out) hb); have n8_ := Aside0.mk (blk_below (g := gb383) (o := .cells #[.slice Ao25 t376.length co25, .int .i64 t379, .int .i64 t380] 24 (0, 0)) (by (with_reducible repeat (first | refine blk_drewN ?_ _ | refine blk_drew ?_ | refine blk_alloc ?_ _)); exact BK383.out) hb); have n9_ := Aside0.mk (below_step (by repeat (first | (with_reducible first | exact HB.out | apply below_alloc | apply pw_below_drewN | apply below_drew1 | refine below_set ?_ GE357.out | refine below_set ?_ GE370.out | refine below_set ?_ GE383.out) | exact HB.out)) hb); clear HO_358000; clear HO_371000; clear HO_384000; clear HO404; clear HO407; clear BK357; clear BK370; clear BK383; clear HB; have HO_358000 := n0_; have HO_371000 := n1_; have HO_384000 := n2_; have HO404 := n3_; have HO407 := n4_; have HO413 := n5_; have BK357 := n6_; have BK370 := n7_; have BK383 := n8_; have HB := n9_; clear n0_ n1_ n2_ n3_ n4_ n5_ n6_ n7_ n8_ n9_; clear hb ho78; obtain ⟨Ao79, co79, eo79⟩ := Kd.R_slice HO413.out; subst eo79) | ((with_reducible refine gate_callee (f := 7) rfl ?_); refine goesL_ (some 88) rfl rfl Try.func7 (by kernel_rfl) rfl #[.slice Ao79 y411.length co79, .int .i64 10] rfl (by (try simp only [List.map_toArray, List.map_cons, List.map_nil]); first | done | rfl | (simp only [List.length_drop, List.length_take]; rfl)) ?_; (with_reducible refine (key_New.calls kj6 _ _ y411 10 t414 t417 t418 t419 _ ?side1 ?side2 A67.out).mono ?_); (case side1 => repeat (first | exact (Kd.R_reads' HO413.out).2.2 | (with_reducible refine Kd.C_alloc ?_ _) | (with_reducible refine Kd.C_drewN ?_ _) | (with_reducible refine Kd.C_drew ?_))); (case side2 => exact (Kd.R_reads' HO413.out).2.1); rintro e w80 ⟨v415, rfl, ho0, hb⟩; refine ⟨_, rfl, ?_⟩; have n0_ := Aside0.mk (Kd.R_elder' (by (with_reducible repeat (first | apply Kd.R_alloc | apply Kd.R_drewN | apply Kd.R_drew)); exact HO_358000.out) (Kd.R_base ho0) hb); have n1_ := Aside0.mk (Kd.R_elder' (by (with_reducible repeat (first | apply Kd.R_alloc | apply Kd.R_drewN | apply Kd.R_drew)); exact HO_371000.out) (Kd.R_base ho0) hb); have n2_ := Aside0.mk (Kd.R_elder' (by (with_reducible repeat (first | apply Kd.R_alloc | apply Kd.R_drewN | apply Kd.R_drew)); exact HO_384000.out) (Kd.R_base ho0) hb); have n3_ := Aside0.mk (Kd.R_elder' (by (with_reducible repeat (first | apply Kd.R_alloc | apply Kd.R_drewN | apply Kd.R_drew)); exact HO404.out) (Kd.R_base ho0) hb); have n4_ := Aside0.mk (Kd.R_elder' (by (with_reducible repeat (first | apply Kd.R_alloc | apply Kd.R_drewN | apply Kd.R_drew)); exact HO407.out) (Kd.R_base ho0) hb); have n5_ := Aside0.mk (Kd.R_elder' (by (with_reducible repeat (first | apply Kd.R_alloc | apply Kd.R_drewN | apply Kd.R_drew)); exact HO413.out) (Kd.R_base ho0) hb); have n6_ := Aside0.mk (Kd.R_lower (Kd.R_new' (Kd.R_new' (Kd.R_new' (Kd.R_new' (Kd.R_new' (Kd.R_new' ho0 (Kd.R_lt (by (with_reducible repeat (first | apply Kd.R_alloc | apply Kd.R_drewN | apply Kd.R_drew)); exact HO_358000.out))) (Kd.R_lt (by (with_reducible repeat (first | apply Kd.R_alloc | apply Kd.R_drewN | apply Kd.R_drew)); exact HO_371000.out))) (Kd.R_lt (by (with_reducible repeat (first | apply Kd.R_alloc | apply Kd.R_drewN | apply Kd.R_drew)); exact HO_384000.out))) (Kd.R_lt (by (with_reducible repeat (first | apply Kd.R_alloc | apply Kd.R_drewN | apply Kd.R_drew)); exact HO404.out))) (Kd.R_lt (by (with_reducible repeat (first | apply Kd.R_alloc | apply Kd.R_drewN | apply Kd.R_drew)); exact HO407.out))) (Kd.R_lt (by (with_reducible repeat (first | apply Kd.R_alloc | apply Kd.R_drewN | apply Kd.R_drew)); exact HO413.out))) (below_size (by repeat (first | (with_reducible first | exact HB.out | apply below_alloc | apply pw_below_drewN | apply below_drew1 | refine below_set ?_ GE357.out | refine below_set ?_ GE370.out | refine below_set ?_ GE383.out) | exact HB.out)))); have n7_ := Aside0.mk (blk_below (g := gb357) (o := .cells #[.slice Ao12 t350.length co12, .int .i64 t353, .int .i64 t354] 24 (0, 0)) (by (with_reducible repeat (first | refine blk_drewN ?_ _ | refine blk_drew ?_ | refine blk_alloc ?_ _)); exact BK357.out) hb); have n8_ := Aside0.mk (blk_below (g := gb370) (o := .cells #[.slice Ao18 t363.length co18, .int .i64 t366, .int .i64 t367] 24 (0, 0)) (by (with_reducible repeat (first | refine blk_drewN ?_ _ | refine blk_drew ?_ | refine blk_alloc ?_ _)); exact BK370.out) hb); have n9_ := Aside0.mk (blk_below (g := gb383) (o := .cells #[.slice Ao25 t376.length co25, .int .i64 t379, .int .i64 t380] 24 (0, 0)) (by (with_reducible repeat (first | refine blk_drewN ?_ _ | refine blk_drew ?_ | refine blk_alloc ?_ _)); exact BK383.out) hb); have n10_ := Aside0.mk (below_step (by repeat (first | (with_reducible first | exact HB.out | apply below_alloc | apply pw_below_drewN | apply below_drew1 | refine below_set ?_ GE357.out | refine below_set ?_ GE370.out | refine below_set ?_ GE383.out) | exact HB.out)) hb); clear HO_358000; clear HO_371000; clear HO_384000; clear HO404; clear HO407; clear HO413; clear BK357; clear BK370; clear BK383; clear HB; have HO_358000 := n0_; have HO_371000 := n1_; have HO_384000 := n2_; have HO404 := n3_; have HO407 := n4_; have HO413 := n5_; have HO416 := n6_; have BK357 := n7_; have BK370 := n8_; have BK383 := n9_; have HB := n10_; clear n0_ n1_ n2_ n3_ n4_ n5_ n6_ n7_ n8_ n9_ n10_; (try clear hb); (try clear hb2); (try clear hk); (try clear hi); (try clear ho0)) | ((with_reducible refine gate_dst (N := 92) rfl ?_); refine Kd.R_lit (Kd.int .i64) _ 3 ?hg (N := 92) ?hd (xs := ([7, 42] : List Int)) (inner := [.int .i64 7, .int .i64 42]) (ok := fun _ => True) (okp := fun _ => True) ?hr ?hp (fun _ hk => hk) trivial (Below.refl _ _) (Nat.le_refl _) (by simp) ?_; (case hd => rfl); (case hg => rfl); (case hr => first | (go_simp; done) | (go_simp; rfl)); (case hp => exact (Reps.one (show Kd.M (Kd.int .i64) _ _ _ 7 [.int .i64 7] from rfl) (Reps.one (show Kd.M (Kd.int .i64) _ _ _ 42 [.int .i64 42] from rfl) (Reps.none _ _)))); intro v421 w81 ho82 hb hg_ hnew_; clear hg_ hnew_; (first | rw [← Ny420.out] at ho82 | (simp only [Int.reduceToNat] at ho82; rw [← Ny420.out] at ho82)); have n0_ := Aside0.mk (Kd.R_elder' (by (with_reducible repeat (first | apply Kd.R_alloc | apply Kd.R_drewN | apply Kd.R_drew)); exact HO_358000.out) (Kd.R_base ho82) hb); have n1_ := Aside0.mk (Kd.R_elder' (by (with_reducible repeat (first | apply Kd.R_alloc | apply Kd.R_drewN | apply Kd.R_drew)); exact HO_371000.out) (Kd.R_base ho82) hb); have n2_ := Aside0.mk (Kd.R_elder' (by (with_reducible repeat (first | apply Kd.R_alloc | apply Kd.R_drewN | apply Kd.R_drew)); exact HO_384000.out) (Kd.R_base ho82) hb); have n3_ := Aside0.mk (Kd.R_elder' (by (with_reducible repeat (first | apply Kd.R_alloc | apply Kd.R_drewN | apply Kd.R_drew)); exact HO404.out) (Kd.R_base ho82) hb); have n4_ := Aside0.mk (Kd.R_elder' (by (with_reducible repeat (first | apply Kd.R_alloc | apply Kd.R_drewN | apply Kd.R_drew)); exact HO407.out) (Kd.R_base ho82) hb); have n5_ := Aside0.mk (Kd.R_elder' (by (with_reducible repeat (first | apply Kd.R_alloc | apply Kd.R_drewN | apply Kd.R_drew)); exact HO413.out) (Kd.R_base ho82) hb); have n6_ := Aside0.mk (Kd.R_elder' (by (with_reducible repeat (first | apply Kd.R_alloc | apply Kd.R_drewN | apply Kd.R_drew)); exact HO416.out) (Kd.R_base ho82) hb); have n7_ := Aside0.mk (Kd.R_lower (Kd.R_new' (Kd.R_new' (Kd.R_new' (Kd.R_new' (Kd.R_new' (Kd.R_new' (Kd.R_new' ho82 (Kd.R_lt (by (with_reducible repeat (first | apply Kd.R_alloc | apply Kd.R_drewN | apply Kd.R_drew)); exact HO_358000.out))) (Kd.R_lt (by (with_reducible repeat (first | apply Kd.R_alloc | apply Kd.R_drewN | apply Kd.R_drew)); exact HO_371000.out))) (Kd.R_lt (by (with_reducible repeat (first | apply Kd.R_alloc | apply Kd.R_drewN | apply Kd.R_drew)); exact HO_384000.out))) (Kd.R_lt (by (with_reducible repeat (first | apply Kd.R_alloc | apply Kd.R_drewN | apply Kd.R_drew)); exact HO404.out))) (Kd.R_lt (by (with_reducible repeat (first | apply Kd.R_alloc | apply Kd.R_drewN | apply Kd.R_drew)); exact HO407.out))) (Kd.R_lt (by (with_reducible repeat (first | apply Kd.R_alloc | apply Kd.R_drewN | apply Kd.R_drew)); exact HO413.out))) (Kd.R_lt (by (with_reducible repeat (first | apply Kd.R_alloc | apply Kd.R_drewN | apply Kd.R_drew)); exact HO416.out))) (below_size (by repeat (first | (with_reducible first | exact HB.out | apply below_alloc | apply pw_below_drewN | apply below_drew1 | refine below_set ?_ GE357.out | refine below_set ?_ GE370.out | refine below_set ?_ GE383.out) | exact HB.out)))); have n8_ := Aside0.mk (blk_below (g := gb357) (o := .cells #[.slice Ao12 t350.length co12, .int .i64 t353, .int .i64 t354] 24 (0, 0)) (by (with_reducible repeat (first | refine blk_drewN ?_ _ | refine blk_drew ?_ | refine blk_alloc ?_ _)); exact BK357.out) hb); have n9_ := Aside0.mk (blk_below (g := gb370) (o := .cells #[.slice Ao18 t363.length co18, .int .i64 t366, .int .i64 t367] 24 (0, 0)) (by (with_reducible repeat (first | refine blk_drewN ?_ _ | refine blk_drew ?_ | refine blk_alloc ?_ _)); exact BK370.out) hb); have n10_ := Aside0.mk (blk_below (g := gb383) (o := .cells #[.slice Ao25 t376.length co25, .int .i64 t379, .int .i64 t380] 24 (0, 0)) (by (with_reducible repeat (first | refine blk_drewN ?_ _ | refine blk_drew ?_ | refine blk_alloc ?_ _)); exact BK383.out) hb); have n11_ := Aside0.mk (below_step (by repeat (first | (with_reducible first | exact HB.out | apply below_alloc | apply pw_below_drewN | apply below_drew1 | refine below_set ?_ GE357.out | refine below_set ?_ GE370.out | refine below_set ?_ GE383.out) | exact HB.out)) hb); clear HO_358000; clear HO_371000; clear HO_384000; clear HO404; clear HO407; clear HO413; clear HO416; clear BK357; clear BK370; clear BK383; clear HB; have HO_358000 := n0_; have HO_371000 := n1_; have HO_384000 := n2_; have HO404 := n3_; have HO407 := n4_; have HO413 := n5_; have HO416 := n6_; have HO422 := n7_; have BK357 := n8_; have BK370 := n9_; have BK383 := n10_; have HB := n11_; clear n0_ n1_ n2_ n3_ n4_ n5_ n6_ n7_ n8_ n9_ n10_ n11_; clear hb ho82; obtain ⟨Ao83, co83, eo83⟩ := Kd.R_slice HO422.out; subst eo83) | ((with_reducible refine gate_callee (f := 7) rfl ?_); refine goesL_ (some 93) rfl rfl Try.func7 (by kernel_rfl) rfl #[.slice Ao83 y420.length co83, .int .i64 0] rfl (by (try simp only [List.map_toArray, List.map_cons, List.map_nil]); first | done | rfl | (simp only [List.length_drop, List.length_take]; rfl)) ?_; (with_reducible refine (key_New.calls kj6 _ _ y420 0 t423 t426 t427 t428 _ ?side1 ?side2 A68.out).mono ?_); (case side1 => repeat (first | exact (Kd.R_reads' HO422.out).2.2 | (with_reducible refine Kd.C_alloc ?_ _) | (with_reducible refine Kd.C_drewN ?_ _) | (with_reducible refine Kd.C_drew ?_))); (case side2 => exact (Kd.R_reads' HO422.out).2.1); rintro e w84 ⟨v424, rfl, ho0, hb⟩; refine ⟨_, rfl, ?_⟩; have n0_ := Aside0.mk (Kd.R_elder' (by (with_reducible repeat (first | apply Kd.R_alloc | apply Kd.R_drewN | apply Kd.R_drew)); exact HO_358000.out) (Kd.R_base ho0) hb); have n1_ := Aside0.mk (Kd.R_elder' (by (with_reducible repeat (first | apply Kd.R_alloc | apply Kd.R_drewN | apply Kd.R_drew)); exact HO_371000.out) (Kd.R_base ho0) hb); have n2_ := Aside0.mk (Kd.R_elder' (by (with_reducible repeat (first | apply Kd.R_alloc | apply Kd.R_drewN | apply Kd.R_drew)); exact HO_384000.out) (Kd.R_base ho0) hb); have n3_ := Aside0.mk (Kd.R_elder' (by (with_reducible repeat (first | apply Kd.R_alloc | apply Kd.R_drewN | apply Kd.R_drew)); exact HO404.out) (Kd.R_base ho0) hb); have n4_ := Aside0.mk (Kd.R_elder' (by (with_reducible repeat (first | apply Kd.R_alloc | apply Kd.R_drewN | apply Kd.R_drew)); exact HO407.out) (Kd.R_base ho0) hb); have n5_ := Aside0.mk (Kd.R_elder' (by (with_reducible repeat (first | apply Kd.R_alloc | apply Kd.R_drewN | apply Kd.R_drew)); exact HO413.out) (Kd.R_base ho0) hb); have n6_ := Aside0.mk (Kd.R_elder' (by (with_reducible repeat (first | apply Kd.R_alloc | apply Kd.R_drewN | apply Kd.R_drew)); exact HO416.out) (Kd.R_base ho0) hb); have n7_ := Aside0.mk (Kd.R_elder' (by (with_reducible repeat (first | apply Kd.R_alloc | apply Kd.R_drewN | apply Kd.R_drew)); exact HO422.out) (Kd.R_base ho0) hb); have n8_ := Aside0.mk (Kd.R_lower (Kd.R_new' (Kd.R_new' (Kd.R_new' (Kd.R_new' (Kd.R_new' (Kd.R_new' (Kd.R_new' (Kd.R_new' ho0 (Kd.R_lt (by (with_reducible repeat (first | apply Kd.R_alloc | apply Kd.R_drewN | apply Kd.R_drew)); exact HO_358000.out))) (Kd.R_lt (by (with_reducible repeat (first | apply Kd.R_alloc | apply Kd.R_drewN | apply Kd.R_drew)); exact HO_371000.out))) (Kd.R_lt (by (with_reducible repeat (first | apply Kd.R_alloc | apply Kd.R_drewN | apply Kd.R_drew)); exact HO_384000.out))) (Kd.R_lt (by (with_reducible repeat (first | apply Kd.R_alloc | apply Kd.R_drewN | apply Kd.R_drew)); exact HO404.out))) (Kd.R_lt (by (with_reducible repeat (first | apply Kd.R_alloc | apply Kd.R_drewN | apply Kd.R_drew)); exact HO407.out))) (Kd.R_lt (by (with_reducible repeat (first | apply Kd.R_alloc | apply Kd.R_drewN | apply Kd.R_drew)); exact HO413.out))) (Kd.R_lt (by (with_reducible repeat (first | apply Kd.R_alloc | apply Kd.R_drewN | apply Kd.R_drew)); exact HO416.out))) (Kd.R_lt (by (with_reducible repeat (first | apply Kd.R_alloc | apply Kd.R_drewN | apply Kd.R_drew)); exact HO422.out))) (below_size (by repeat (first | (with_reducible first | exact HB.out | apply below_alloc | apply pw_below_drewN | apply below_drew1 | refine below_set ?_ GE357.out | refine below_set ?_ GE370.out | refine below_set ?_ GE383.out) | exact HB.out)))); have n9_ := Aside0.mk (blk_below (g := gb357) (o := .cells #[.slice Ao12 t350.length co12, .int .i64 t353, .int .i64 t354] 24 (0, 0)) (by (with_reducible repeat (first | refine blk_drewN ?_ _ | refine blk_drew ?_ | refine blk_alloc ?_ _)); exact BK357.out) hb); have n10_ := Aside0.mk (blk_below (g := gb370) (o := .cells #[.slice Ao18 t363.length co18, .int .i64 t366, .int .i64 t367] 24 (0, 0)) (by (with_reducible repeat (first | refine blk_drewN ?_ _ | refine blk_drew ?_ | refine blk_alloc ?_ _)); exact BK370.out) hb); have n11_ := Aside0.mk (blk_below (g := gb383) (o := .cells #[.slice Ao25 t376.length co25, .int .i64 t379, .int .i64 t380] 24 (0, 0)) (by (with_reducible repeat (first | refine blk_drewN ?_ _ | refine blk_drew ?_ | refine blk_alloc ?_ _)); exact BK383.out) hb); have n12_ := Aside0.mk (below_step (by repeat (first | (with_reducible first | exact HB.out | apply below_alloc | apply pw_below_drewN | apply below_drew1 | refine below_set ?_ GE357.out | refine below_set ?_ GE370.out | refine below_set ?_ GE383.out) | exact HB.out)) hb); clear HO_358000; clear HO_371000; clear HO_384000; clear HO404; clear HO407; clear HO413; clear HO416; clear HO422; clear BK357; clear BK370; clear BK383; clear HB; have HO_358000 := n0_; have HO_371000 := n1_; have HO_384000 := n2_; have HO404 := n3_; have HO407 := n4_; have HO413 := n5_; have HO416 := n6_; have HO422 := n7_; have HO425 := n8_; have BK357 := n9_; have BK370 := n10_; have BK383 := n11_; have HB := n12_; clear n0_ n1_ n2_ n3_ n4_ n5_ n6_ n7_ n8_ n9_ n10_ n11_ n12_; (try clear hb); (try clear hb2); (try clear hk); (try clear hi); (try clear ho0)) | ((with_reducible refine gate_callee (f := 14) rfl ?_); (with_reducible refine gate_dst (N := 107) rfl ?_); refine gate_guard (by rfl) ?_; dsimp only; refine goesL_ (some 107) rfl rfl Try.func14 (by kernel_rfl) rfl #[] rfl (by (try simp only [List.map_toArray, List.map_cons, List.map_nil]); first | done | rfl | (simp only [List.length_drop, List.length_take]; rfl)) ?_; (with_reducible refine (L22_awake.calls kj6  true _ A72.out).mono ?_); rintro e w85 ⟨rfl, hb⟩; refine ⟨_, rfl, ?_⟩; have n0_ := Aside0.mk (Kd.R_below (by (with_reducible repeat (first | apply Kd.R_alloc | apply Kd.R_drewN | apply Kd.R_drew)); exact HO_358000.out) hb); have n1_ := Aside0.mk (Kd.R_below (by (with_reducible repeat (first | apply Kd.R_alloc | apply Kd.R_drewN | apply Kd.R_drew)); exact HO_371000.out) hb); have n2_ := Aside0.mk (Kd.R_below (by (with_reducible repeat (first | apply Kd.R_alloc | apply Kd.R_drewN | apply Kd.R_drew)); exact HO_384000.out) hb); have n3_ := Aside0.mk (Kd.R_below (by (with_reducible repeat (first | apply Kd.R_alloc | apply Kd.R_drewN | apply Kd.R_drew)); exact HO404.out) hb); have n4_ := Aside0.mk (Kd.R_below (by (with_reducible repeat (first | apply Kd.R_alloc | apply Kd.R_drewN | apply Kd.R_drew)); exact HO407.out) hb); have n5_ := Aside0.mk (Kd.R_below (by (with_reducible repeat (first | apply Kd.R_alloc | apply Kd.R_drewN | apply Kd.R_drew)); exact HO413.out) hb); have n6_ := Aside0.mk (Kd.R_below (by (with_reducible repeat (first | apply Kd.R_alloc | apply Kd.R_drewN | apply Kd.R_drew)); exact HO416.out) hb); have n7_ := Aside0.mk (Kd.R_below (by (with_reducible repeat (first | apply Kd.R_alloc | apply Kd.R_drewN | apply Kd.R_drew)); exact HO422.out) hb); have n8_ := Aside0.mk (Kd.R_below (by (with_reducible repeat (first | apply Kd.R_alloc | apply Kd.R_drewN | apply Kd.R_drew)); exact HO425.out) hb); have n9_ := Aside0.mk (blk_below (g := gb357) (o := .cells #[.slice Ao12 t350.length co12, .int .i64 t353, .int .i64 t354] 24 (0, 0)) (by (with_reducible repeat (first | refine blk_drewN ?_ _ | refine blk_drew ?_ | refine blk_alloc ?_ _)); exact BK357.out) hb); have n10_ := Aside0.mk (blk_below (g := gb370) (o := .cells #[.slice Ao18 t363.length co18, .int .i64 t366, .int .i64 t367] 24 (0, 0)) (by (with_reducible repeat (first | refine blk_drewN ?_ _ | refine blk_drew ?_ | refine blk_alloc ?_ _)); exact BK370.out) hb); have n11_ := Aside0.mk (blk_below (g := gb383) (o := .cells #[.slice Ao25 t376.length co25, .int .i64 t379, .int .i64 t380] 24 (0, 0)) (by (with_reducible repeat (first | refine blk_drewN ?_ _ | refine blk_drew ?_ | refine blk_alloc ?_ _)); exact BK383.out) hb); have n12_ := Aside0.mk (below_step (by repeat (first | (with_reducible first | exact HB.out | apply below_alloc | apply pw_below_drewN | apply below_drew1 | refine below_set ?_ GE357.out | refine below_set ?_ GE370.out | refine below_set ?_ GE383.out) | exact HB.out)) hb); clear HO_358000; clear HO_371000; clear HO_384000; clear HO404; clear HO407; clear HO413; clear HO416; clear HO422; clear HO425; clear BK357; clear BK370; clear BK383; clear HB; have HO_358000 := n0_; have HO_371000 := n1_; have HO_384000 := n2_; have HO404 := n3_; have HO407 := n4_; have HO413 := n5_; have HO416 := n6_; have HO422 := n7_; have HO425 := n8_; have BK357 := n9_; have BK370 := n10_; have BK383 := n11_; have HB := n12_; clear n0_ n1_ n2_ n3_ n4_ n5_ n6_ n7_ n8_ n9_ n10_ n11_ n12_; (try clear hb); (try clear hb2); (try clear hk); (try clear hi)))
              all_goals go_ret
              all_goals exact ⟨by first | rfl | (simp [errW_none, errW_some] <;> rfl) | (simp [*, errW_none, errW_some] <;> rfl), by repeat (first | (with_reducible first | exact HB.out | apply below_alloc | apply pw_below_drewN | apply below_drew1 | refine below_set ?_ GE357.out | refine below_set ?_ GE370.out | refine below_set ?_ GE383.out) | exact HB.out)⟩
            · rw [if_neg c71] at H
              have c71b0 : (t428 == 2) = false := beq_eq_false_iff_ne.mpr c71
              have c71b1 : (t428 != 2) = true := bne_iff_ne.mpr c71
              exact absurd H (by repeat (first | exact never_none | exact never_false | refine never_ite ?_ ?_ | refine never_bind (fun _ => ?_) | exact L22_KeyKnown.j0_d80true _))
          · rw [if_neg c70] at H
            have c70b0 : (t419 == 2) = false := beq_eq_false_iff_ne.mpr c70
            have c70b1 : (t419 != 2) = true := bne_iff_ne.mpr c70
            exact absurd H (by repeat (first | exact never_none | exact never_false | refine never_ite ?_ ?_ | refine never_bind (fun _ => ?_) | exact L22_KeyKnown.j0_d80true _))
        · rw [if_neg c69] at H
          have c69b0 : (t410 == 8) = false := beq_eq_false_iff_ne.mpr c69
          have c69b1 : (t410 != 8) = true := bne_iff_ne.mpr c69
          exact absurd H (by repeat (first | exact never_none | exact never_false | refine never_ite ?_ ?_ | refine never_bind (fun _ => ?_) | exact L22_KeyKnown.j0_d80true _))

/-- THE ONE PURE STATEMENT of L22_KeyKnown: yours. -/
def L22_KeyKnown.Pure : Prop := ∃ k, L22_KeyKnown.f k  = some true
theorem L22_KeyKnown.walk (P : L22_KeyKnown.Pure)  (w : World)  :
    Calls Try.prog 5 #[] w fun e w' => e = .returned (.bool true) ∧ Below w.heap.size w w' := by
  obtain ⟨k, h⟩ := P  
  refine (L22_KeyKnown.calls k  true w h).mono ?_
  rintro e w' ⟨rfl, hd⟩
  exact ⟨rfl, hd⟩

end Go.Proofs.Ytlcghmfkgblheaa.F
