/- Part 1 of TableKeeps: what the functions reckon, step by step, and plain laws. No condition. -/
import Derived.Laws.BitsAllLaws
import Derived.Test.YtmfbpkjhabdcgaaKB21x3
section
-- Written by fork.py (this session's program over the kit's print.py). Not trusted: Lean checks it.
namespace Go.Proofs.Ytmfbpkjhabdcgaa.F
open Go.RowKit Go.Proofs.YtmfbpkjhabdcgaaW.PrintWords Go.Proofs.YtmfbpkjhabdcgaaW.PrintLast Go.Proofs.YtmfbpkjhabdcgaaW.PrintMore
attribute [local go_sem] max2_int min2_int max_two min_two max_three min_three max_four min_four
set_option linter.unusedVariables false
set_option linter.unusedSimpArgs false

attribute [local go_sem high] eqA29
/-! ### L21_in: function 47 -/
mutual
def L21_in.l0 : Nat → List (S29) → List (S29) → Int → Int → Option (Bool)
  | 0, _, _, _, _ => none
  | k + 1, x0, x1, x5, x6 => if x6 < (x1.length : Int) then (L21_in.j1 k x0 x1 x5 x6 (decide (x5 < (x0.length : Int)))) else (L21_in.j1 k x0 x1 x5 x6 false)
def L21_in.j1 : Nat → List (S29) → List (S29) → Int → Int → Bool → Option (Bool)
  | 0, _, _, _, _, _ => none
  | k + 1, x0, x1, x5, x6, x16 => if x16 = true then (if 0 ≤ x6 then (if x6 < (x1.length : Int) then (if 0 ≤ x5 then (if x5 < (x0.length : Int) then (if (((rd_T29 x1 x6).f0) == ((rd_T29 x0 x5).f0) && (((rd_T29 x1 x6).f1) == ((rd_T29 x0 x5).f1) && (((rd_T29 x1 x6).f2) == ((rd_T29 x0 x5).f2) && (((rd_T29 x1 x6).f3) == ((rd_T29 x0 x5).f3))))) = true then (L21_in.l0 k x0 x1 (wrap64 (x5 + 1)) (wrap64 (x6 + 1))) else (L21_in.l0 k x0 x1 x5 (wrap64 (x6 + 1)))) else (none)) else (none)) else (none)) else (none)) else (some (x5 == (x0.length : Int)))
end
def L21_in.f (k : Nat) (l0 : List (S29)) (l1 : List (S29)) : Option (Bool) := L21_in.l0 k l0 l1 0 0
theorem L21_in.mono_l : ∀ k, (∀ y0 y1 y2 y3, LeO (L21_in.l0 k y0 y1 y2 y3) (L21_in.l0 (k + 1) y0 y1 y2 y3)) ∧ (∀ y0 y1 y2 y3 y4, LeO (L21_in.j1 k y0 y1 y2 y3 y4) (L21_in.j1 (k + 1) y0 y1 y2 y3 y4))
  | 0 => ⟨fun _ _ _ _ r h => by simp [L21_in.l0] at h, fun _ _ _ _ _ r h => by simp [L21_in.j1] at h⟩
  | k + 1 => by
    obtain ⟨ih0, ih1⟩ := L21_in.mono_l k
    refine ⟨?_, ?_⟩
    · intro y0 y1 y2 y3
      unfold L21_in.l0
      repeat' first
      | (with_reducible exact ih0 _ _ _ _)
      | (with_reducible exact ih1 _ _ _ _ _)
      | (with_reducible exact LeO.refl _)
      | (with_reducible exact LeO.none _)
      | (with_reducible refine LeO.ite ?_ ?_)
      | (with_reducible refine LeO.bind ?_ (fun _ => ?_))
      | exact ih0 _ _ _ _
      | exact ih1 _ _ _ _ _
      | exact LeO.none _
      | refine LeO.ite ?_ ?_
      | refine LeO.bind ?_ (fun _ => ?_)
    · intro y0 y1 y2 y3 y4
      unfold L21_in.j1
      repeat' first
      | (with_reducible exact ih0 _ _ _ _)
      | (with_reducible exact ih1 _ _ _ _ _)
      | (with_reducible exact LeO.refl _)
      | (with_reducible exact LeO.none _)
      | (with_reducible refine LeO.ite ?_ ?_)
      | (with_reducible refine LeO.bind ?_ (fun _ => ?_))
      | exact ih0 _ _ _ _
      | exact ih1 _ _ _ _ _
      | exact LeO.none _
      | refine LeO.ite ?_ ?_
      | refine LeO.bind ?_ (fun _ => ?_)
theorem L21_in.mono : ∀ a0 a1 k, LeO (L21_in.f k a0 a1) (L21_in.f (k + 1) a0 a1) := by
  intro a0 a1 k
  obtain ⟨ih0, ih1⟩ := L21_in.mono_l k
  unfold L21_in.f
  repeat' first
      | (with_reducible exact ih0 _ _ _ _)
      | (with_reducible exact ih1 _ _ _ _ _)
      | (with_reducible exact LeO.refl _)
      | (with_reducible exact LeO.none _)
      | (with_reducible refine LeO.ite ?_ ?_)
      | (with_reducible refine LeO.bind ?_ (fun _ => ?_))
      | exact ih0 _ _ _ _
      | exact ih1 _ _ _ _ _
      | exact LeO.none _
      | refine LeO.ite ?_ ?_
      | refine LeO.bind ?_ (fun _ => ?_)
set_option maxHeartbeats 8000000 in
set_option maxRecDepth 100000 in
theorem L21_in.calls (k : Nat) (A0 : Option Addr) (c0 : Nat) (l0 : List (S29)) (A1 : Option Addr) (c1 : Nat) (l1 : List (S29)) (r : Bool) (w : World) (hr0 : Kd.C k29 w A0 l0.length l0) (hc0 : l0.length ≤ c0) (hr1 : Kd.C k29 w A1 l1.length l1) (hc1 : l1.length ≤ c1) (h : L21_in.f k l0 l1 = some r) :
    Calls Try.prog 47 #[.slice A0 l0.length c0, .slice A1 l1.length c1] w fun e w' => e = .returned (.bool r) ∧ Drawn0 w w' := by
  have hu29 := Try.underlying29
  have HR0 := Aside0.mk hr0
  have HC0 := Aside0.mk hc0
  clear hr0 hc0
  have HR1 := Aside0.mk hr1
  have HC1 := Aside0.mk hc1
  clear hr1 hc1
  have H : (L21_in.l0 k l0 l1 0 0) = some r := h
  clear h
  have H' := Aside0.mk H
  clear H
  go_enter Try.func47, Try.ntmps47
  go_wp2
  repeat (go_quiet (fail); try go_wp2)
  go_loopg [5, 6] k (fun kq v5 v6 w' => ∃ (x5_1 : Int) (x6_1 : Int), v5 = .int .i64 x5_1 ∧ v6 = .int .i64 x6_1 ∧ Aside0 (L21_in.l0 kq l0 l1 x5_1 x6_1 = some r) ∧ Aside0 (kq ≤ k) ∧ Drawn0 w w')
  case atStart => exact ⟨(0), (0), (by first | rfl | (simp; done) | (simp [*]; done)), (by first | rfl | (simp; done) | (simp [*]; done)), H', ⟨Nat.le_refl _⟩, by repeat (first | exact Drawn0.refl _ | apply Drawn0.step)⟩
  case round =>
    clear H'
    try clear c1
    try clear p2
    obtain ⟨x5_1, x6_1, rfl, rfl, HA, HK1, ⟨m1, rfl⟩⟩ := hrel
    cases gk with
    | zero => exact absurd HA.out (by simp [L21_in.l0])
    | succ k1 =>
      have H := HA.out
      clear HA
      simp only [L21_in.l0] at H
      have HC3 := Aside0.mk H
      clear H
      go_upto_region 3 with (fail)
      repeat (go_quiet (fail); go_upto_region 3 with (fail))
      go_cut [16] (fun v16 wc => ∃ (kq : Nat) (x16_2 : Bool), v16 = .bool x16_2 ∧ Aside0 (L21_in.j1 kq l0 l1 x5_1 x6_1 x16_2 = some r) ∧ Aside0 (kq ≤ k1) ∧ Drawn0 w wc)
      case first =>
        have H := HC3.out
        clear HC3
        by_cases c4 : x6_1 < (l1.length : Int)
        · rw [if_pos c4] at H
          have c4b0 : decide (x6_1 < (l1.length : Int)) = true := decide_eq_true c4
          clear c4
          (first | rw [c4b0] | (simp only [i64_w, i32_w]; rw [c4b0]) | skip)
          have H' := Aside0.mk H
          clear H
          go_wp2
          repeat (go_quiet (fail); try go_wp2)
          go_meet
          case rel => exact ⟨_, (decide (x5_1 < (l0.length : Int))), (by first | rfl | (simp; done) | (simp [*]; done)), H', ⟨by have := HK1.out; first | omega | exact Nat.le_refl _⟩, by repeat (first | exact Drawn0.refl _ | apply Drawn0.step)⟩
        · rw [if_neg c4] at H
          have c4b0 : decide (x6_1 < (l1.length : Int)) = false := decide_eq_false c4
          clear c4
          (first | rw [c4b0] | (simp only [i64_w, i32_w]; rw [c4b0]) | skip)
          have H' := Aside0.mk H
          clear H
          go_wp2
          repeat (go_quiet (fail); try go_wp2)
          go_meet
          case rel => exact ⟨_, (false), (by first | rfl | (simp; done) | (simp [*]; done)), H', ⟨by have := HK1.out; first | omega | exact Nat.le_refl _⟩, by repeat (first | exact Drawn0.refl _ | apply Drawn0.step)⟩
      case rest =>
        clear HC3
        try clear c1
        try clear p2
        try clear c4
        try clear c4b0
        try clear p2
        obtain ⟨kq, x16_2, rfl, HA, HJ2, ⟨mc2, rfl⟩⟩ := hcut
        cases kq with
        | zero => exact absurd HA.out (by simp [L21_in.j1])
        | succ kj2 =>
          have H := HA.out
          clear HA
          simp only [L21_in.j1] at H
          by_cases c5 : x16_2 = true
          · subst c5
            have H1 : (if 0 ≤ x6_1 then (if x6_1 < (l1.length : Int) then (if 0 ≤ x5_1 then (if x5_1 < (l0.length : Int) then (if (((rd_T29 l1 x6_1).f0) == ((rd_T29 l0 x5_1).f0) && (((rd_T29 l1 x6_1).f1) == ((rd_T29 l0 x5_1).f1) && (((rd_T29 l1 x6_1).f2) == ((rd_T29 l0 x5_1).f2) && (((rd_T29 l1 x6_1).f3) == ((rd_T29 l0 x5_1).f3))))) = true then (L21_in.l0 kj2 l0 l1 (wrap64 (x5_1 + 1)) (wrap64 (x6_1 + 1))) else (L21_in.l0 kj2 l0 l1 x5_1 (wrap64 (x6_1 + 1)))) else (none)) else (none)) else (none)) else (none)) = some r := by rw [if_pos rfl] at H; exact H
            clear H
            have H := H1
            clear H1
            by_cases c6 : 0 ≤ x6_1
            · rw [if_pos c6] at H
              have c6b0 : decide (0 ≤ x6_1) = true := decide_eq_true c6
              clear c6
              by_cases c7 : x6_1 < (l1.length : Int)
              · rw [if_pos c7] at H
                have c7b0 : decide (x6_1 < (l1.length : Int)) = true := decide_eq_true c7
                clear c7
                by_cases c8 : 0 ≤ x5_1
                · rw [if_pos c8] at H
                  have c8b0 : decide (0 ≤ x5_1) = true := decide_eq_true c8
                  clear c8
                  by_cases c9 : x5_1 < (l0.length : Int)
                  · rw [if_pos c9] at H
                    have c9b0 : decide (x5_1 < (l0.length : Int)) = true := decide_eq_true c9
                    clear c9
                    by_cases c10 : (((rd_T29 l1 x6_1).f0) == ((rd_T29 l0 x5_1).f0) && (((rd_T29 l1 x6_1).f1) == ((rd_T29 l0 x5_1).f1) && (((rd_T29 l1 x6_1).f2) == ((rd_T29 l0 x5_1).f2) && (((rd_T29 l1 x6_1).f3) == ((rd_T29 l0 x5_1).f3))))) = true
                    · rw [if_pos c10] at H
                      have c10b0 : (((rd_T29 l1 x6_1).f0) == ((rd_T29 l0 x5_1).f0) && (((rd_T29 l1 x6_1).f1) == ((rd_T29 l0 x5_1).f1) && (((rd_T29 l1 x6_1).f2) == ((rd_T29 l0 x5_1).f2) && (((rd_T29 l1 x6_1).f3) == ((rd_T29 l0 x5_1).f3))))) = true := c10
                      (try (have c10b1 : decide (((rd_T29 l1 x6_1).f0) = ((rd_T29 l0 x5_1).f0) && (((rd_T29 l1 x6_1).f1) == ((rd_T29 l0 x5_1).f1) && (((rd_T29 l1 x6_1).f2) == ((rd_T29 l0 x5_1).f2) && (((rd_T29 l1 x6_1).f3) == ((rd_T29 l0 x5_1).f3))))) = true := by simpa using c10))
                      (try (have c10b2 : (((rd_T29 l1 x6_1).f0) == ((rd_T29 l0 x5_1).f0) && (((rd_T29 l1 x6_1).f1) == ((rd_T29 l0 x5_1).f1) && (((rd_T29 l1 x6_1).f2) == ((rd_T29 l0 x5_1).f2) && (((rd_T29 l1 x6_1).f3) == ((rd_T29 l0 x5_1).f3))))) = true := by simpa using c10))
                      clear c10
                      have H' := Aside0.mk H
                      clear H
                      have p444 : 0 ≤ (x6_1 : Int) := of_decide_eq_true (by first | (with_reducible assumption) | assumption)
                      have q444 : x6_1 < (l1.length : Int) := of_decide_eq_true (by first | (with_reducible assumption) | assumption)
                      obtain ⟨ad444, e444, hx444_0, hx444_1, hx444_2, hx444_3⟩ := at_T29 HR1.out x6_1 p444 q444
                      cases e444
                      replace p444 := eq_true p444
                      replace q444 := eq_true q444
                      have p445 : 0 ≤ (x5_1 : Int) := of_decide_eq_true (by first | (with_reducible assumption) | assumption)
                      have q445 : x5_1 < (l0.length : Int) := of_decide_eq_true (by first | (with_reducible assumption) | assumption)
                      obtain ⟨ad445, e445, hx445_0, hx445_1, hx445_2, hx445_3⟩ := at_T29 HR0.out x5_1 p445 q445
                      cases e445
                      replace p445 := eq_true p445
                      replace q445 := eq_true q445
                      go_wp2
                      repeat (go_quiet (fail); try go_wp2)
                      go_roundg kj2
                      case measure => have := HK1.out; have := HJ2.out; omega
                      case rel => exact ⟨(wrap64 (x5_1 + 1)), (wrap64 (x6_1 + 1)), (by first | rfl | (simp; done) | (simp [*]; done)), (by first | rfl | (simp; done) | (simp [*]; done)), H', ⟨by have := HK1.out; have := HJ2.out; omega⟩, by repeat (first | exact Drawn0.refl _ | apply Drawn0.step)⟩
                    · rw [if_neg c10] at H
                      have c10b0 : (((rd_T29 l1 x6_1).f0) == ((rd_T29 l0 x5_1).f0) && (((rd_T29 l1 x6_1).f1) == ((rd_T29 l0 x5_1).f1) && (((rd_T29 l1 x6_1).f2) == ((rd_T29 l0 x5_1).f2) && (((rd_T29 l1 x6_1).f3) == ((rd_T29 l0 x5_1).f3))))) = false := by simpa using c10
                      (try (have c10b1 : decide (((rd_T29 l1 x6_1).f0) = ((rd_T29 l0 x5_1).f0) && (((rd_T29 l1 x6_1).f1) == ((rd_T29 l0 x5_1).f1) && (((rd_T29 l1 x6_1).f2) == ((rd_T29 l0 x5_1).f2) && (((rd_T29 l1 x6_1).f3) == ((rd_T29 l0 x5_1).f3))))) = false := by simpa using c10))
                      (try (have c10b2 : (((rd_T29 l1 x6_1).f0) == ((rd_T29 l0 x5_1).f0) && (((rd_T29 l1 x6_1).f1) == ((rd_T29 l0 x5_1).f1) && (((rd_T29 l1 x6_1).f2) == ((rd_T29 l0 x5_1).f2) && (((rd_T29 l1 x6_1).f3) == ((rd_T29 l0 x5_1).f3))))) = false := by simpa using c10))
                      (try (have c10b3 : ¬ (((rd_T29 l1 x6_1).f0) = ((rd_T29 l0 x5_1).f0) && (((rd_T29 l1 x6_1).f1) == ((rd_T29 l0 x5_1).f1) && (((rd_T29 l1 x6_1).f2) == ((rd_T29 l0 x5_1).f2) && (((rd_T29 l1 x6_1).f3) == ((rd_T29 l0 x5_1).f3))))) := by simpa using c10))
                      clear c10
                      have H' := Aside0.mk H
                      clear H
                      have p444 : 0 ≤ (x6_1 : Int) := of_decide_eq_true (by first | (with_reducible assumption) | assumption)
                      have q444 : x6_1 < (l1.length : Int) := of_decide_eq_true (by first | (with_reducible assumption) | assumption)
                      obtain ⟨ad444, e444, hx444_0, hx444_1, hx444_2, hx444_3⟩ := at_T29 HR1.out x6_1 p444 q444
                      cases e444
                      replace p444 := eq_true p444
                      replace q444 := eq_true q444
                      have p445 : 0 ≤ (x5_1 : Int) := of_decide_eq_true (by first | (with_reducible assumption) | assumption)
                      have q445 : x5_1 < (l0.length : Int) := of_decide_eq_true (by first | (with_reducible assumption) | assumption)
                      obtain ⟨ad445, e445, hx445_0, hx445_1, hx445_2, hx445_3⟩ := at_T29 HR0.out x5_1 p445 q445
                      cases e445
                      replace p445 := eq_true p445
                      replace q445 := eq_true q445
                      go_wp2
                      repeat (go_quiet (fail); try go_wp2)
                      go_roundg kj2
                      case measure => have := HK1.out; have := HJ2.out; omega
                      case rel => exact ⟨(x5_1), (wrap64 (x6_1 + 1)), (by first | rfl | (simp; done) | (simp [*]; done)), (by first | rfl | (simp; done) | (simp [*]; done)), H', ⟨by have := HK1.out; have := HJ2.out; omega⟩, by repeat (first | exact Drawn0.refl _ | apply Drawn0.step)⟩
                  · rw [if_neg c9] at H
                    exact absurd H (by simp)
                · rw [if_neg c8] at H
                  exact absurd H (by simp)
              · rw [if_neg c7] at H
                exact absurd H (by simp)
            · rw [if_neg c6] at H
              exact absurd H (by simp)
          · replace c5 := Bool.eq_false_iff.mpr c5
            subst c5
            have H1 : (some (x5_1 == (l0.length : Int))) = some r := by rw [if_neg (show ¬ (false = true) by decide)] at H; exact H
            clear H
            have H := H1
            clear H1
            obtain rfl := Option.some.inj H
            go_wp2
            repeat (go_quiet (fail); try go_wp2)
            all_goals go_ret
            all_goals exact ⟨by first | rfl | (simp; done) | (simp [*]; done), by repeat (first | exact Drawn0.refl _ | apply Drawn0.step)⟩


end Go.Proofs.Ytmfbpkjhabdcgaa.F
end
section
-- Written by fork.py (this session's program over the kit's print.py). Not trusted: Lean checks it.
namespace Go.Proofs.Ytmfbpkjhabdcgaa.F
open Go.RowKit Go.Proofs.YtmfbpkjhabdcgaaW.PrintWords Go.Proofs.YtmfbpkjhabdcgaaW.PrintLast Go.Proofs.YtmfbpkjhabdcgaaW.PrintMore
attribute [local go_sem] max2_int min2_int max_two min_two max_three min_three max_four min_four
set_option linter.unusedVariables false
set_option linter.unusedSimpArgs false

/-! ### table_Halls: function 42 -/
def table_Halls.l0 : Nat → Int → Int → List (S29) → Int → Int → Option (Int × Int × Int)
  | 0, _, _, _, _, _ => none
  | k + 1, x2, x3, x15, x16, x17 => if x17 < x16 then (if 0 ≤ x17 then (if x17 < (x15.length : Int) then (if 0 ≤ (IntKind.u64.wrap ((rd_T29 x15 x17).f1)) then (if ((rd_T29 x15 x17).f0) = 1 then (table_Halls.l0 k (Go.bits .or .u64 x2 (shl .u64 1 (IntKind.u64.wrap ((rd_T29 x15 x17).f1)))) x3 x15 x16 (wrap64 (x17 + 1))) else (if ((rd_T29 x15 x17).f0) = 2 then (table_Halls.l0 k x2 (Go.bits .or .u64 x3 (shl .u64 1 (IntKind.u64.wrap ((rd_T29 x15 x17).f1)))) x15 x16 (wrap64 (x17 + 1))) else (table_Halls.l0 k x2 x3 x15 x16 (wrap64 (x17 + 1))))) else (none)) else (none)) else (none)) else (some (x2, x3, 0))
def table_Halls.f (k : Nat) (a0_0 : Int) (l0_1 : List (S29)) : Option (Int × Int × Int) := (table_valid.f a0_0 l0_1).bind fun t369 => (if t369 = 0 then (table_Halls.l0 k 0 0 l0_1 (l0_1.length : Int) 0) else (some (0, 0, t369)))
theorem table_Halls.mono_l : ∀ k, (∀ y0 y1 y2 y3 y4, LeO (table_Halls.l0 k y0 y1 y2 y3 y4) (table_Halls.l0 (k + 1) y0 y1 y2 y3 y4))
  | 0 => fun _ _ _ _ _ r h => by simp [table_Halls.l0] at h
  | k + 1 => by
    have ih0 := table_Halls.mono_l k
    · intro y0 y1 y2 y3 y4
      unfold table_Halls.l0
      repeat' first
      | (with_reducible exact ih0 _ _ _ _ _)
      | (with_reducible exact LeO.refl _)
      | (with_reducible exact LeO.none _)
      | (with_reducible refine LeO.ite ?_ ?_)
      | (with_reducible refine LeO.bind ?_ (fun _ => ?_))
      | exact ih0 _ _ _ _ _
      | exact LeO.none _
      | refine LeO.ite ?_ ?_
      | refine LeO.bind ?_ (fun _ => ?_)
theorem table_Halls.mono : ∀ a0 a1 k, LeO (table_Halls.f k a0 a1) (table_Halls.f (k + 1) a0 a1) := by
  intro a0 a1 k
  have ih0 := table_Halls.mono_l k
  unfold table_Halls.f
  repeat' first
      | (with_reducible exact ih0 _ _ _ _ _)
      | (with_reducible exact LeO.refl _)
      | (with_reducible exact LeO.none _)
      | (with_reducible refine LeO.ite ?_ ?_)
      | (with_reducible refine LeO.bind ?_ (fun _ => ?_))
      | exact ih0 _ _ _ _ _
      | exact LeO.none _
      | refine LeO.ite ?_ ?_
      | refine LeO.bind ?_ (fun _ => ?_)
set_option maxHeartbeats 8000000 in
set_option maxRecDepth 100000 in
theorem table_Halls.calls (k : Nat) (a0_0 : Int) (A0_1 : Option Addr) (c0_1 : Nat) (l0_1 : List (S29)) (r1 : Int) (r2 : Int) (r3 : Int) (w : World) (hr0_1 : Kd.C k29 w A0_1 l0_1.length l0_1) (hc0_1 : l0_1.length ≤ c0_1) (h : table_Halls.f k a0_0 l0_1 = some (r1, r2, r3)) :
    Calls Try.prog 42 #[.agg #[.int .i64 a0_0, .slice A0_1 l0_1.length c0_1]] w fun e w' => e = .returned (.tuple #[.int .u64 r1, .int .u64 r2, .int .i64 r3]) ∧ Below w.heap.size w w' := by
  have hu25 := Try.underlying25
  have hu29 := Try.underlying29
  have HR0_1 := Aside0.mk hr0_1
  have HC0_1 := Aside0.mk hc0_1
  clear hr0_1 hc0_1
  have HB := Aside0.mk (Below.refl w.heap.size w)
  have H : ((table_valid.f a0_0 l0_1).bind fun t369 => (if t369 = 0 then (table_Halls.l0 k 0 0 l0_1 (l0_1.length : Int) 0) else (some (0, 0, t369)))) = some (r1, r2, r3) := h
  clear h
  replace H := Option.bind_eq_some_iff.mp H
  obtain ⟨t369, A20, H⟩ := H
  replace H : (if t369 = 0 then (table_Halls.l0 k 0 0 l0_1 (l0_1.length : Int) 0) else (some (0, 0, t369))) = some (r1, r2, r3) := H
  have A2 := Aside0.mk A20
  clear A20
  by_cases c3 : t369 = 0
  · rw [if_pos c3] at H
    have c3b0 : (t369 == 0) = true := beq_iff_eq.mpr c3
    have c3b1 : (t369 != 0) = false := bne_eq_false_iff_eq.mpr c3
    clear c3
    have H' := Aside0.mk H
    clear H
    go_enter Try.func42, Try.ntmps42
    go_wp2_with (first | ((with_reducible refine gate_dst (N := 1) rfl ?_); refine box_event ?hg (N := 1) ?hd (cs := #[.int .i64 a0_0, .slice A0_1 l0_1.length c0_1]) (t := 25) ?hr ?_; (case hd => rfl); (case hg => rfl); (case hr => first | (go_simp; done) | (go_simp; rfl)); intro gb368 hg w4 hbox hb; have n0_ := Aside0.mk (below_step (by repeat (first | (with_reducible first | exact HB.out | apply below_alloc | apply pw_below_drewN | apply below_drew1) | exact HB.out)) hb); have n1_ := Aside0.mk (hbox); have n2_ := Aside0.mk ((by rw [hg]; exact (below_size (by repeat (first | (with_reducible first | exact HB.out | apply below_alloc | apply pw_below_drewN | apply below_drew1) | exact HB.out))) : w.heap.size ≤ gb368)); have n3_ := Aside0.mk ((by rw [hg]; exact (below_size (by repeat (first | (with_reducible first | exact HB.out | apply below_alloc | apply pw_below_drewN | apply below_drew1) | exact HB.out))) : w.heap.size ≤ gb368)); clear HB; have HB := n0_; have BK368 := n1_; have GW368 := n2_; have GE368 := n3_; clear n0_ n1_ n2_ n3_; clear hb hbox hg; have hcz5_0 : w4.cell? ⟨gb368, 0, none⟩ = some (.int .i64 a0_0) := (blk_cell BK368.out 0).trans rfl; have hcz5_1 : w4.cell? ⟨gb368, 1, none⟩ = some (.slice A0_1 l0_1.length c0_1) := (blk_cell BK368.out 1).trans rfl; have hfz5_0 := blk_frozen BK368.out 0; have hfz5_1 := blk_frozen BK368.out 1) | ((with_reducible refine gate_callee (f := 129) rfl ?_); refine goesL_ (some 10) rfl rfl Try.func129 (by kernel_rfl) rfl #[.agg #[.int .i64 a0_0, .slice A0_1 l0_1.length c0_1]] rfl (by (try simp only [List.map_toArray, List.map_cons, List.map_nil]); first | done | rfl | (simp only [List.length_drop, List.length_take]; rfl)) ?_; (with_reducible refine (table_valid.calls a0_0 _ _ l0_1 t369 _ ?side1 ?side2 A2.out).mono ?_); (case side1 => repeat (first | exact (Kd.C_below HR0_1.out HB.out) | (with_reducible refine Kd.C_alloc ?_ _) | (with_reducible refine Kd.C_drewN ?_ _) | (with_reducible refine Kd.C_drew ?_))); (case side2 => exact HC0_1.out); rintro e w6 ⟨rfl, hb⟩; refine ⟨_, rfl, ?_⟩; have n0_ := Aside0.mk (blk_below (g := gb368) (o := .cells #[.int .i64 a0_0, .slice A0_1 l0_1.length c0_1] 25 (0, 0)) (by (with_reducible repeat (first | refine blk_drewN ?_ _ | refine blk_drew ?_ | refine blk_alloc ?_ _)); exact BK368.out) hb); have n1_ := Aside0.mk (below_step (by repeat (first | (with_reducible first | exact HB.out | apply below_alloc | apply pw_below_drewN | apply below_drew1 | refine below_set ?_ GE368.out) | exact HB.out)) hb); clear BK368; clear HB; have BK368 := n0_; have HB := n1_; clear n0_ n1_; (try clear hb); (try clear hb2); (try clear hk); (try clear hi); have hcz7_0 : w6.cell? ⟨gb368, 0, none⟩ = some (.int .i64 a0_0) := (blk_cell BK368.out 0).trans rfl; have hcz7_1 : w6.cell? ⟨gb368, 1, none⟩ = some (.slice A0_1 l0_1.length c0_1) := (blk_cell BK368.out 1).trans rfl; have hfz7_0 := blk_frozen BK368.out 0; have hfz7_1 := blk_frozen BK368.out 1))
    go_loopg [2, 3, 17] k (fun kq v2 v3 v17 w' => ∃ (x2_1 : Int) (x3_1 : Int) (x17_1 : Int), v2 = .int .u64 x2_1 ∧ v3 = .int .u64 x3_1 ∧ v17 = .int .i64 x17_1 ∧ Aside0 (table_Halls.l0 kq x2_1 x3_1 l0_1 (l0_1.length : Int) x17_1 = some (r1, r2, r3)) ∧ Aside0 (kq ≤ k) ∧ Aside0 (w'.heap[gb368]? = some (.cells #[.int .i64 a0_0, (.slice A0_1 l0_1.length c0_1)] 25 (0, 0))) ∧ Aside0 (Below w.heap.size w w'))
    case atStart => exact ⟨(0), (0), (0), (by first | rfl | (simp; done) | (simp [*]; done)), (by first | rfl | (simp; done) | (simp [*]; done)), (by first | rfl | (simp; done) | (simp [*]; done)), H', ⟨Nat.le_refl _⟩, ⟨by (with_reducible repeat (first | refine blk_drewN ?_ _ | refine blk_drew ?_ | refine blk_alloc ?_ _)); exact BK368.out⟩, ⟨by repeat (first | (with_reducible first | exact HB.out | apply below_alloc | apply pw_below_drewN | apply below_drew1 | refine below_set ?_ GE368.out) | exact HB.out)⟩⟩
    case round =>
      clear H'
      try clear c1
      try clear p2
      try clear c3
      try clear c3b0
      try clear c3b1
      try clear c4
      try clear hcz5_0
      try clear hcz5_1
      try clear hcz7_0
      try clear hcz7_1
      try clear hfz5_0
      try clear hfz5_1
      try clear hfz7_0
      try clear hfz7_1
      obtain ⟨x2_1, x3_1, x17_1, rfl, rfl, rfl, HA, HK1, BK368, HB⟩ := hrel
      cases gk with
      | zero => exact absurd HA.out (by simp [table_Halls.l0])
      | succ k1 =>
        have H := HA.out
        clear HA
        simp only [table_Halls.l0] at H
        by_cases c8 : x17_1 < (l0_1.length : Int)
        · rw [if_pos c8] at H
          have c8b0 : decide (x17_1 < (l0_1.length : Int)) = true := decide_eq_true c8
          clear c8
          by_cases c9 : 0 ≤ x17_1
          · rw [if_pos c9] at H
            have c9b0 : decide (0 ≤ x17_1) = true := decide_eq_true c9
            clear c9
            by_cases c10 : x17_1 < (l0_1.length : Int)
            · rw [if_pos c10] at H
              have c10b0 : decide (x17_1 < (l0_1.length : Int)) = true := decide_eq_true c10
              clear c10
              obtain ⟨ji11, hji11⟩ : ∃ j_ : Int, (IntKind.u64.wrap ((rd_T29 l0_1 x17_1).f1)) = j_ := ⟨_, rfl⟩
              replace H : (if 0 ≤ (ji11) then (if ((rd_T29 l0_1 x17_1).f0) = 1 then (table_Halls.l0 k1 (Go.bits .or .u64 x2_1 (shl .u64 1 (ji11))) x3_1 l0_1 (l0_1.length : Int) (wrap64 (x17_1 + 1))) else (if ((rd_T29 l0_1 x17_1).f0) = 2 then (table_Halls.l0 k1 x2_1 (Go.bits .or .u64 x3_1 (shl .u64 1 (ji11))) l0_1 (l0_1.length : Int) (wrap64 (x17_1 + 1))) else (table_Halls.l0 k1 x2_1 x3_1 l0_1 (l0_1.length : Int) (wrap64 (x17_1 + 1))))) else (none)) = some (r1, r2, r3) := by first | (rw [hji11] at H; exact H) | (simp only [hji11] at H ⊢; exact H)
              by_cases c12 : 0 ≤ (ji11)
              · rw [if_pos c12] at H
                have c12b0 := eq_true c12
                have c12b1 : decide (0 ≤ (ji11)) = true := decide_eq_true c12
                clear c12
                obtain ⟨ji13, hji13⟩ : ∃ j_ : Int, (shl .u64 1 (ji11)) = j_ := ⟨_, rfl⟩
                replace H : (if ((rd_T29 l0_1 x17_1).f0) = 1 then (table_Halls.l0 k1 (Go.bits .or .u64 x2_1 (ji13)) x3_1 l0_1 (l0_1.length : Int) (wrap64 (x17_1 + 1))) else (if ((rd_T29 l0_1 x17_1).f0) = 2 then (table_Halls.l0 k1 x2_1 (Go.bits .or .u64 x3_1 (ji13)) l0_1 (l0_1.length : Int) (wrap64 (x17_1 + 1))) else (table_Halls.l0 k1 x2_1 x3_1 l0_1 (l0_1.length : Int) (wrap64 (x17_1 + 1))))) = some (r1, r2, r3) := by first | (rw [hji13] at H; exact H) | (simp only [hji13] at H ⊢; exact H)
                have hji13_ : (IntKind.u64.wrap (1 * 2 ^ min (ji11).toNat 64)) = ji13 := hji13
                have hji13z : (ji11) ≤ 64 → (IntKind.u64.wrap (1 * 2 ^ (ji11).toNat)) = ji13 := shl_small hji13
                have hji13u : (IntKind.u64.wrap (2 ^ min (ji11).toNat 64)) = ji13 := by have h_ := hji13_; rw [Int.one_mul] at h_; exact h_
                have hji13v : (ji11) ≤ 64 → (IntKind.u64.wrap (2 ^ (ji11).toNat)) = ji13 := fun hle_ => by have h_ := hji13z hle_; rw [Int.one_mul] at h_; exact h_
                by_cases c14 : ((rd_T29 l0_1 x17_1).f0) = 1
                · rw [if_pos c14] at H
                  have c14b0 : (((rd_T29 l0_1 x17_1).f0) == 1) = true := beq_iff_eq.mpr c14
                  have c14b1 : (((rd_T29 l0_1 x17_1).f0) != 1) = false := bne_eq_false_iff_eq.mpr c14
                  clear c14
                  have H' := Aside0.mk H
                  clear H
                  have p370 : 0 ≤ (x17_1 : Int) := of_decide_eq_true (by first | (with_reducible assumption) | assumption)
                  have q370 : x17_1 < (l0_1.length : Int) := of_decide_eq_true (by first | (with_reducible assumption) | assumption)
                  obtain ⟨ad370, e370, hx370_0, hx370_1, hx370_2, hx370_3⟩ := at_T29 HR0_1.out x17_1 p370 q370
                  cases e370
                  replace hx370_0 := (HB.out.cell (World.block_lt_of_cell? w _ hx370_0)).trans hx370_0
                  replace hx370_1 := (HB.out.cell (World.block_lt_of_cell? w _ hx370_1)).trans hx370_1
                  replace hx370_2 := (HB.out.cell (World.block_lt_of_cell? w _ hx370_2)).trans hx370_2
                  replace hx370_3 := (HB.out.cell (World.block_lt_of_cell? w _ hx370_3)).trans hx370_3
                  replace p370 := eq_true p370
                  replace q370 := eq_true q370
                  go_wp2_with (first | ((with_reducible refine gate_dst (N := 7) rfl ?_); refine box_event ?hg (N := 7) ?hd (cs := #[.int .i64 0, .int .i64 0, .int .i64 0, .int .i64 0]) (t := 29) ?hr ?_; (case hd => rfl); (case hg => rfl); (case hr => first | (go_simp; done) | (go_simp; rfl)); intro gb371 hg w15 hbox hb; have n0_ := Aside0.mk (blk_below (g := gb368) (o := .cells #[.int .i64 a0_0, .slice (some ad370) l0_1.length c0_1] 25 (0, 0)) (by (with_reducible repeat (first | refine blk_drewN ?_ _ | refine blk_drew ?_ | refine blk_alloc ?_ _)); exact BK368.out) hb); have n1_ := Aside0.mk (below_step (by repeat (first | (with_reducible first | exact HB.out | apply below_alloc | apply pw_below_drewN | apply below_drew1 | refine below_set ?_ GE368.out) | exact HB.out)) hb); have n2_ := Aside0.mk (hbox); have n3_ := Aside0.mk ((by rw [hg]; exact (below_size (by repeat (first | (with_reducible first | exact HB.out | apply below_alloc | apply pw_below_drewN | apply below_drew1 | refine below_set ?_ GE368.out) | exact HB.out))) : w.heap.size ≤ gb371)); have n4_ := Aside0.mk ((by rw [hg]; exact (below_size (by repeat (first | (with_reducible first | exact HB.out | apply below_alloc | apply pw_below_drewN | apply below_drew1 | refine below_set ?_ GE368.out) | exact HB.out))) : w.heap.size ≤ gb371)); have n5_ := Aside0.mk ((by rw [hg]; exact Nat.ne_of_lt (blk_lt (g := gb368) (o := .cells #[.int .i64 a0_0, .slice (some ad370) l0_1.length c0_1] 25 (0, 0)) (by (with_reducible repeat (first | refine blk_drewN ?_ _ | refine blk_drew ?_ | refine blk_alloc ?_ _)); exact BK368.out)) : gb368 ≠ gb371)); have n6_ := Aside0.mk ((by rw [hg]; exact Nat.ne_of_gt (blk_lt (g := gb368) (o := .cells #[.int .i64 a0_0, .slice (some ad370) l0_1.length c0_1] 25 (0, 0)) (by (with_reducible repeat (first | refine blk_drewN ?_ _ | refine blk_drew ?_ | refine blk_alloc ?_ _)); exact BK368.out)) : gb371 ≠ gb368)); clear BK368; clear HB; have BK368 := n0_; have HB := n1_; have BK371 := n2_; have GW371 := n3_; have GE371 := n4_; have NB368_371 := n5_; have NB371_368 := n6_; clear n0_ n1_ n2_ n3_ n4_ n5_ n6_; clear hb hbox hg; have hnb16 := NB371_368.out; have hnc16 := NB368_371.out; have hcz17_0 : w15.cell? ⟨gb371, 0, none⟩ = some (.int .i64 0) := (blk_cell BK371.out 0).trans rfl; have hcz17_1 : w15.cell? ⟨gb371, 1, none⟩ = some (.int .i64 0) := (blk_cell BK371.out 1).trans rfl; have hcz17_2 : w15.cell? ⟨gb371, 2, none⟩ = some (.int .i64 0) := (blk_cell BK371.out 2).trans rfl; have hcz17_3 : w15.cell? ⟨gb371, 3, none⟩ = some (.int .i64 0) := (blk_cell BK371.out 3).trans rfl; have hfz17_0 := blk_frozen BK371.out 0; have hfz17_1 := blk_frozen BK371.out 1; have hfz17_2 := blk_frozen BK371.out 2; have hfz17_3 := blk_frozen BK371.out 3))
                  go_roundg k1
                  case measure => have := HK1.out; omega
                  case rel => exact ⟨(Go.bits .or .u64 x2_1 (ji13)), (x3_1), (wrap64 (x17_1 + 1)), (by first | rfl | (simp; done) | (simp only [← hji13] <;> (first | rfl | simp)) | (simp [*]; done)), (by first | rfl | (simp; done) | (simp [*]; done)), (by first | rfl | (simp; done) | (simp [*]; done)), H', ⟨by have := HK1.out; omega⟩, ⟨by (with_reducible repeat (first | refine blk_drewN ?_ _ | refine blk_drew ?_ | refine blk_alloc ?_ _)); refine blk_far ?_ NB368_371.out _; (with_reducible repeat (first | refine blk_drewN ?_ _ | refine blk_drew ?_ | refine blk_alloc ?_ _)); refine blk_far ?_ NB368_371.out _; (with_reducible repeat (first | refine blk_drewN ?_ _ | refine blk_drew ?_ | refine blk_alloc ?_ _)); refine blk_far ?_ NB368_371.out _; (with_reducible repeat (first | refine blk_drewN ?_ _ | refine blk_drew ?_ | refine blk_alloc ?_ _)); refine blk_far ?_ NB368_371.out _; (with_reducible repeat (first | refine blk_drewN ?_ _ | refine blk_drew ?_ | refine blk_alloc ?_ _)); exact BK368.out⟩, ⟨by repeat (first | (with_reducible first | exact HB.out | apply below_alloc | apply pw_below_drewN | apply below_drew1 | refine below_set ?_ GE368.out | refine below_set ?_ GE371.out) | exact HB.out)⟩⟩
                · rw [if_neg c14] at H
                  have c14b0 : (((rd_T29 l0_1 x17_1).f0) == 1) = false := beq_eq_false_iff_ne.mpr c14
                  have c14b1 : (((rd_T29 l0_1 x17_1).f0) != 1) = true := bne_iff_ne.mpr c14
                  by_cases c18 : ((rd_T29 l0_1 x17_1).f0) = 2
                  · rw [if_pos c18] at H
                    have c18b0 : (((rd_T29 l0_1 x17_1).f0) == 2) = true := beq_iff_eq.mpr c18
                    have c18b1 : (((rd_T29 l0_1 x17_1).f0) != 2) = false := bne_eq_false_iff_eq.mpr c18
                    clear c18
                    have H' := Aside0.mk H
                    clear H
                    have p370 : 0 ≤ (x17_1 : Int) := of_decide_eq_true (by first | (with_reducible assumption) | assumption)
                    have q370 : x17_1 < (l0_1.length : Int) := of_decide_eq_true (by first | (with_reducible assumption) | assumption)
                    obtain ⟨ad370, e370, hx370_0, hx370_1, hx370_2, hx370_3⟩ := at_T29 HR0_1.out x17_1 p370 q370
                    cases e370
                    replace hx370_0 := (HB.out.cell (World.block_lt_of_cell? w _ hx370_0)).trans hx370_0
                    replace hx370_1 := (HB.out.cell (World.block_lt_of_cell? w _ hx370_1)).trans hx370_1
                    replace hx370_2 := (HB.out.cell (World.block_lt_of_cell? w _ hx370_2)).trans hx370_2
                    replace hx370_3 := (HB.out.cell (World.block_lt_of_cell? w _ hx370_3)).trans hx370_3
                    replace p370 := eq_true p370
                    replace q370 := eq_true q370
                    go_wp2_with (first | ((with_reducible refine gate_dst (N := 7) rfl ?_); refine box_event ?hg (N := 7) ?hd (cs := #[.int .i64 0, .int .i64 0, .int .i64 0, .int .i64 0]) (t := 29) ?hr ?_; (case hd => rfl); (case hg => rfl); (case hr => first | (go_simp; done) | (go_simp; rfl)); intro gb371 hg w19 hbox hb; have n0_ := Aside0.mk (blk_below (g := gb368) (o := .cells #[.int .i64 a0_0, .slice (some ad370) l0_1.length c0_1] 25 (0, 0)) (by (with_reducible repeat (first | refine blk_drewN ?_ _ | refine blk_drew ?_ | refine blk_alloc ?_ _)); exact BK368.out) hb); have n1_ := Aside0.mk (below_step (by repeat (first | (with_reducible first | exact HB.out | apply below_alloc | apply pw_below_drewN | apply below_drew1 | refine below_set ?_ GE368.out) | exact HB.out)) hb); have n2_ := Aside0.mk (hbox); have n3_ := Aside0.mk ((by rw [hg]; exact (below_size (by repeat (first | (with_reducible first | exact HB.out | apply below_alloc | apply pw_below_drewN | apply below_drew1 | refine below_set ?_ GE368.out) | exact HB.out))) : w.heap.size ≤ gb371)); have n4_ := Aside0.mk ((by rw [hg]; exact (below_size (by repeat (first | (with_reducible first | exact HB.out | apply below_alloc | apply pw_below_drewN | apply below_drew1 | refine below_set ?_ GE368.out) | exact HB.out))) : w.heap.size ≤ gb371)); have n5_ := Aside0.mk ((by rw [hg]; exact Nat.ne_of_lt (blk_lt (g := gb368) (o := .cells #[.int .i64 a0_0, .slice (some ad370) l0_1.length c0_1] 25 (0, 0)) (by (with_reducible repeat (first | refine blk_drewN ?_ _ | refine blk_drew ?_ | refine blk_alloc ?_ _)); exact BK368.out)) : gb368 ≠ gb371)); have n6_ := Aside0.mk ((by rw [hg]; exact Nat.ne_of_gt (blk_lt (g := gb368) (o := .cells #[.int .i64 a0_0, .slice (some ad370) l0_1.length c0_1] 25 (0, 0)) (by (with_reducible repeat (first | refine blk_drewN ?_ _ | refine blk_drew ?_ | refine blk_alloc ?_ _)); exact BK368.out)) : gb371 ≠ gb368)); clear BK368; clear HB; have BK368 := n0_; have HB := n1_; have BK371 := n2_; have GW371 := n3_; have GE371 := n4_; have NB368_371 := n5_; have NB371_368 := n6_; clear n0_ n1_ n2_ n3_ n4_ n5_ n6_; clear hb hbox hg; have hnb20 := NB371_368.out; have hnc20 := NB368_371.out; have hcz21_0 : w19.cell? ⟨gb371, 0, none⟩ = some (.int .i64 0) := (blk_cell BK371.out 0).trans rfl; have hcz21_1 : w19.cell? ⟨gb371, 1, none⟩ = some (.int .i64 0) := (blk_cell BK371.out 1).trans rfl; have hcz21_2 : w19.cell? ⟨gb371, 2, none⟩ = some (.int .i64 0) := (blk_cell BK371.out 2).trans rfl; have hcz21_3 : w19.cell? ⟨gb371, 3, none⟩ = some (.int .i64 0) := (blk_cell BK371.out 3).trans rfl; have hfz21_0 := blk_frozen BK371.out 0; have hfz21_1 := blk_frozen BK371.out 1; have hfz21_2 := blk_frozen BK371.out 2; have hfz21_3 := blk_frozen BK371.out 3))
                    go_roundg k1
                    case measure => have := HK1.out; omega
                    case rel => exact ⟨(x2_1), (Go.bits .or .u64 x3_1 (ji13)), (wrap64 (x17_1 + 1)), (by first | rfl | (simp; done) | (simp [*]; done)), (by first | rfl | (simp; done) | (simp only [← hji13] <;> (first | rfl | simp)) | (simp [*]; done)), (by first | rfl | (simp; done) | (simp [*]; done)), H', ⟨by have := HK1.out; omega⟩, ⟨by (with_reducible repeat (first | refine blk_drewN ?_ _ | refine blk_drew ?_ | refine blk_alloc ?_ _)); refine blk_far ?_ NB368_371.out _; (with_reducible repeat (first | refine blk_drewN ?_ _ | refine blk_drew ?_ | refine blk_alloc ?_ _)); refine blk_far ?_ NB368_371.out _; (with_reducible repeat (first | refine blk_drewN ?_ _ | refine blk_drew ?_ | refine blk_alloc ?_ _)); refine blk_far ?_ NB368_371.out _; (with_reducible repeat (first | refine blk_drewN ?_ _ | refine blk_drew ?_ | refine blk_alloc ?_ _)); refine blk_far ?_ NB368_371.out _; (with_reducible repeat (first | refine blk_drewN ?_ _ | refine blk_drew ?_ | refine blk_alloc ?_ _)); exact BK368.out⟩, ⟨by repeat (first | (with_reducible first | exact HB.out | apply below_alloc | apply pw_below_drewN | apply below_drew1 | refine below_set ?_ GE368.out | refine below_set ?_ GE371.out) | exact HB.out)⟩⟩
                  · rw [if_neg c18] at H
                    have c18b0 : (((rd_T29 l0_1 x17_1).f0) == 2) = false := beq_eq_false_iff_ne.mpr c18
                    have c18b1 : (((rd_T29 l0_1 x17_1).f0) != 2) = true := bne_iff_ne.mpr c18
                    have H' := Aside0.mk H
                    clear H
                    have p370 : 0 ≤ (x17_1 : Int) := of_decide_eq_true (by first | (with_reducible assumption) | assumption)
                    have q370 : x17_1 < (l0_1.length : Int) := of_decide_eq_true (by first | (with_reducible assumption) | assumption)
                    obtain ⟨ad370, e370, hx370_0, hx370_1, hx370_2, hx370_3⟩ := at_T29 HR0_1.out x17_1 p370 q370
                    cases e370
                    replace hx370_0 := (HB.out.cell (World.block_lt_of_cell? w _ hx370_0)).trans hx370_0
                    replace hx370_1 := (HB.out.cell (World.block_lt_of_cell? w _ hx370_1)).trans hx370_1
                    replace hx370_2 := (HB.out.cell (World.block_lt_of_cell? w _ hx370_2)).trans hx370_2
                    replace hx370_3 := (HB.out.cell (World.block_lt_of_cell? w _ hx370_3)).trans hx370_3
                    replace p370 := eq_true p370
                    replace q370 := eq_true q370
                    go_wp2_with (first | ((with_reducible refine gate_dst (N := 7) rfl ?_); refine box_event ?hg (N := 7) ?hd (cs := #[.int .i64 0, .int .i64 0, .int .i64 0, .int .i64 0]) (t := 29) ?hr ?_; (case hd => rfl); (case hg => rfl); (case hr => first | (go_simp; done) | (go_simp; rfl)); intro gb371 hg w22 hbox hb; have n0_ := Aside0.mk (blk_below (g := gb368) (o := .cells #[.int .i64 a0_0, .slice (some ad370) l0_1.length c0_1] 25 (0, 0)) (by (with_reducible repeat (first | refine blk_drewN ?_ _ | refine blk_drew ?_ | refine blk_alloc ?_ _)); exact BK368.out) hb); have n1_ := Aside0.mk (below_step (by repeat (first | (with_reducible first | exact HB.out | apply below_alloc | apply pw_below_drewN | apply below_drew1 | refine below_set ?_ GE368.out) | exact HB.out)) hb); have n2_ := Aside0.mk (hbox); have n3_ := Aside0.mk ((by rw [hg]; exact (below_size (by repeat (first | (with_reducible first | exact HB.out | apply below_alloc | apply pw_below_drewN | apply below_drew1 | refine below_set ?_ GE368.out) | exact HB.out))) : w.heap.size ≤ gb371)); have n4_ := Aside0.mk ((by rw [hg]; exact (below_size (by repeat (first | (with_reducible first | exact HB.out | apply below_alloc | apply pw_below_drewN | apply below_drew1 | refine below_set ?_ GE368.out) | exact HB.out))) : w.heap.size ≤ gb371)); have n5_ := Aside0.mk ((by rw [hg]; exact Nat.ne_of_lt (blk_lt (g := gb368) (o := .cells #[.int .i64 a0_0, .slice (some ad370) l0_1.length c0_1] 25 (0, 0)) (by (with_reducible repeat (first | refine blk_drewN ?_ _ | refine blk_drew ?_ | refine blk_alloc ?_ _)); exact BK368.out)) : gb368 ≠ gb371)); have n6_ := Aside0.mk ((by rw [hg]; exact Nat.ne_of_gt (blk_lt (g := gb368) (o := .cells #[.int .i64 a0_0, .slice (some ad370) l0_1.length c0_1] 25 (0, 0)) (by (with_reducible repeat (first | refine blk_drewN ?_ _ | refine blk_drew ?_ | refine blk_alloc ?_ _)); exact BK368.out)) : gb371 ≠ gb368)); clear BK368; clear HB; have BK368 := n0_; have HB := n1_; have BK371 := n2_; have GW371 := n3_; have GE371 := n4_; have NB368_371 := n5_; have NB371_368 := n6_; clear n0_ n1_ n2_ n3_ n4_ n5_ n6_; clear hb hbox hg; have hnb23 := NB371_368.out; have hnc23 := NB368_371.out; have hcz24_0 : w22.cell? ⟨gb371, 0, none⟩ = some (.int .i64 0) := (blk_cell BK371.out 0).trans rfl; have hcz24_1 : w22.cell? ⟨gb371, 1, none⟩ = some (.int .i64 0) := (blk_cell BK371.out 1).trans rfl; have hcz24_2 : w22.cell? ⟨gb371, 2, none⟩ = some (.int .i64 0) := (blk_cell BK371.out 2).trans rfl; have hcz24_3 : w22.cell? ⟨gb371, 3, none⟩ = some (.int .i64 0) := (blk_cell BK371.out 3).trans rfl; have hfz24_0 := blk_frozen BK371.out 0; have hfz24_1 := blk_frozen BK371.out 1; have hfz24_2 := blk_frozen BK371.out 2; have hfz24_3 := blk_frozen BK371.out 3))
                    go_roundg k1
                    case measure => have := HK1.out; omega
                    case rel => exact ⟨(x2_1), (x3_1), (wrap64 (x17_1 + 1)), (by first | rfl | (simp; done) | (simp [*]; done)), (by first | rfl | (simp; done) | (simp [*]; done)), (by first | rfl | (simp; done) | (simp [*]; done)), H', ⟨by have := HK1.out; omega⟩, ⟨by (with_reducible repeat (first | refine blk_drewN ?_ _ | refine blk_drew ?_ | refine blk_alloc ?_ _)); refine blk_far ?_ NB368_371.out _; (with_reducible repeat (first | refine blk_drewN ?_ _ | refine blk_drew ?_ | refine blk_alloc ?_ _)); refine blk_far ?_ NB368_371.out _; (with_reducible repeat (first | refine blk_drewN ?_ _ | refine blk_drew ?_ | refine blk_alloc ?_ _)); refine blk_far ?_ NB368_371.out _; (with_reducible repeat (first | refine blk_drewN ?_ _ | refine blk_drew ?_ | refine blk_alloc ?_ _)); refine blk_far ?_ NB368_371.out _; (with_reducible repeat (first | refine blk_drewN ?_ _ | refine blk_drew ?_ | refine blk_alloc ?_ _)); exact BK368.out⟩, ⟨by repeat (first | (with_reducible first | exact HB.out | apply below_alloc | apply pw_below_drewN | apply below_drew1 | refine below_set ?_ GE368.out | refine below_set ?_ GE371.out) | exact HB.out)⟩⟩
              · rw [if_neg c12] at H
                exact absurd H (by simp)
            · rw [if_neg c10] at H
              exact absurd H (by simp)
          · rw [if_neg c9] at H
            exact absurd H (by simp)
        · rw [if_neg c8] at H
          have c8b0 : decide (x17_1 < (l0_1.length : Int)) = false := decide_eq_false c8
          clear c8
          simp only [Option.some.injEq, Prod.mk.injEq] at H
          obtain ⟨rfl, rfl, rfl⟩ := H
          go_wp2
          all_goals go_ret3
          all_goals exact ⟨by first | rfl | (simp [errW_none, errW_some] <;> rfl) | (simp [*, errW_none, errW_some] <;> rfl), by repeat (first | (with_reducible first | exact HB.out | apply below_alloc | apply pw_below_drewN | apply below_drew1 | refine below_set ?_ GE368.out) | exact HB.out)⟩
  · rw [if_neg c3] at H
    have c3b0 : (t369 == 0) = false := beq_eq_false_iff_ne.mpr c3
    have c3b1 : (t369 != 0) = true := bne_iff_ne.mpr c3
    simp only [Option.some.injEq, Prod.mk.injEq] at H
    obtain ⟨rfl, rfl, rfl⟩ := H
    go_enter Try.func42, Try.ntmps42
    go_wp2_with (first | ((with_reducible refine gate_dst (N := 1) rfl ?_); refine box_event ?hg (N := 1) ?hd (cs := #[.int .i64 a0_0, .slice A0_1 l0_1.length c0_1]) (t := 25) ?hr ?_; (case hd => rfl); (case hg => rfl); (case hr => first | (go_simp; done) | (go_simp; rfl)); intro gb368 hg w25 hbox hb; have n0_ := Aside0.mk (below_step (by repeat (first | (with_reducible first | exact HB.out | apply below_alloc | apply pw_below_drewN | apply below_drew1) | exact HB.out)) hb); have n1_ := Aside0.mk (hbox); have n2_ := Aside0.mk ((by rw [hg]; exact (below_size (by repeat (first | (with_reducible first | exact HB.out | apply below_alloc | apply pw_below_drewN | apply below_drew1) | exact HB.out))) : w.heap.size ≤ gb368)); have n3_ := Aside0.mk ((by rw [hg]; exact (below_size (by repeat (first | (with_reducible first | exact HB.out | apply below_alloc | apply pw_below_drewN | apply below_drew1) | exact HB.out))) : w.heap.size ≤ gb368)); clear HB; have HB := n0_; have BK368 := n1_; have GW368 := n2_; have GE368 := n3_; clear n0_ n1_ n2_ n3_; clear hb hbox hg; have hcz26_0 : w25.cell? ⟨gb368, 0, none⟩ = some (.int .i64 a0_0) := (blk_cell BK368.out 0).trans rfl; have hcz26_1 : w25.cell? ⟨gb368, 1, none⟩ = some (.slice A0_1 l0_1.length c0_1) := (blk_cell BK368.out 1).trans rfl; have hfz26_0 := blk_frozen BK368.out 0; have hfz26_1 := blk_frozen BK368.out 1) | ((with_reducible refine gate_callee (f := 129) rfl ?_); refine goesL_ (some 10) rfl rfl Try.func129 (by kernel_rfl) rfl #[.agg #[.int .i64 a0_0, .slice A0_1 l0_1.length c0_1]] rfl (by (try simp only [List.map_toArray, List.map_cons, List.map_nil]); first | done | rfl | (simp only [List.length_drop, List.length_take]; rfl)) ?_; (with_reducible refine (table_valid.calls a0_0 _ _ l0_1 t369 _ ?side1 ?side2 A2.out).mono ?_); (case side1 => repeat (first | exact (Kd.C_below HR0_1.out HB.out) | (with_reducible refine Kd.C_alloc ?_ _) | (with_reducible refine Kd.C_drewN ?_ _) | (with_reducible refine Kd.C_drew ?_))); (case side2 => exact HC0_1.out); rintro e w27 ⟨rfl, hb⟩; refine ⟨_, rfl, ?_⟩; have n0_ := Aside0.mk (blk_below (g := gb368) (o := .cells #[.int .i64 a0_0, .slice A0_1 l0_1.length c0_1] 25 (0, 0)) (by (with_reducible repeat (first | refine blk_drewN ?_ _ | refine blk_drew ?_ | refine blk_alloc ?_ _)); exact BK368.out) hb); have n1_ := Aside0.mk (below_step (by repeat (first | (with_reducible first | exact HB.out | apply below_alloc | apply pw_below_drewN | apply below_drew1 | refine below_set ?_ GE368.out) | exact HB.out)) hb); clear BK368; clear HB; have BK368 := n0_; have HB := n1_; clear n0_ n1_; (try clear hb); (try clear hb2); (try clear hk); (try clear hi)))
    all_goals go_ret3
    all_goals exact ⟨by first | rfl | (simp [errW_none, errW_some] <;> rfl) | (simp [*, errW_none, errW_some] <;> rfl), by repeat (first | (with_reducible first | exact HB.out | apply below_alloc | apply pw_below_drewN | apply below_drew1 | refine below_set ?_ GE368.out) | exact HB.out)⟩


end Go.Proofs.Ytmfbpkjhabdcgaa.F
end
section
/- Contract of table.without. -/
namespace Go.Proofs.Ytmfbpkjhabdcgaa.F
open Go.RowKit Go.Proofs.YtmfbpkjhabdcgaaW.PrintWords Go.Proofs.YtmfbpkjhabdcgaaW.PrintLast Go.Proofs.YtmfbpkjhabdcgaaW.PrintMore
set_option linter.unusedVariables false
set_option linter.unusedSimpArgs false

set_option maxHeartbeats 2000000 in
set_option maxRecDepth 100000 in
/-- table.without. -/
theorem without_calls (g : Nat) (lb : Array Value) (eg : ∀ args w, (callFunc g args).run Try.prog w = .ok (.enter g args) w) (p : S29 → Bool) (a0 : Int) (A : Option Addr) (c : Nat) (l : List S29) (w : World)
    (hC : Kd.C k29 w A l.length l) (hlc : l.length ≤ c) (hl : l.length < 4398046511104) (hp : PredG g lb p w none) :
    Calls Try.prog 133 #[.agg #[.int .i64 a0, .slice A l.length c], .func (.func g) #[] lb] w fun e w' => ∃ v1 v2 : Value, e = .returned (.tuple #[.agg #[.int .i64 a0, v1], v2]) ∧
      Kd.R k29 29 w' w.heap.size (fun k => some k ≠ v2.ownBlock) v1 (l.filter (fun x => !p x)) ∧ Kd.R k29 29 w' w.heap.size (fun k => some k ≠ v1.ownBlock) v2 (l.filter p) ∧ Below w.heap.size w w' := by
  have hu25 := Try.underlying25
  have hcl : table_clone.f a0 l = some (a0, l) := by
    unfold table_clone.f api_Call_157.f
    rw [if_pos hl]
    rfl
  have HC := Aside0.mk hC
  have HL := Aside0.mk hl
  have HP := Aside0.mk hp
  have HCL := Aside0.mk hcl
  clear hC hl hp hcl
  go_enter Try.func133, Try.ntmps133
  go_wp2_with (first
    | ((with_reducible refine gate_dst (N := 2) rfl ?_); refine box_event ?hg (N := 2) ?hd (cs := #[.int .i64 a0, .slice A l.length c]) (t := 25) ?hr ?_; (case hd => rfl); (case hg => rfl); (case hr => first | (go_simp; done) | (go_simp; rfl)); intro g1 hg1 w1 hx1 hb1; have HB1 := Aside0.mk hb1; have HX1 := Aside0.mk hx1; have HG1 := Aside0.mk (show w.heap.size ≤ g1 by rw [hg1]; exact Nat.le_refl _); clear hb1 hg1 hx1)
    | ((with_reducible refine gate_dst (N := 4) rfl ?_); refine box_event ?hg (N := 4) ?hd (cs := #[.int .i64 0, .slice none 0 0]) (t := 25) ?hr ?_; (case hd => rfl); (case hg => rfl); (case hr => first | (go_simp; done) | (go_simp; rfl)); intro g2 hg2 w2 hx2 hb2; have HB2 := Aside0.mk (below_then HB1.out HB1.out.size hb2); have HX2 := Aside0.mk hx2; have HX12 := Aside0.mk (blk_below HX1.out hb2); have r0 := (blk_cell HX12.out 0).trans rfl; have r1 := (blk_cell HX12.out 1).trans rfl; have HG2 := Aside0.mk (show w.heap.size ≤ g2 by rw [hg2]; exact HB1.out.size); have HN := Aside0.mk (show g1 ≠ g2 by rw [hg2]; have := blk_lt HX1.out; omega); clear hb2 hg2 hx2)
    | (go_at_call 130; refine (filter_calls g lb eg p a0 A c l _ (Kd.C_below HC.out HB2.out) hlc HL.out (fun W x0 x1 x2 x3 hW => HP.out W x0 x1 x2 x3 (grown_new HB2.out hW (fun j e => by cases e)))).mono ?_; rintro e w3 ⟨v3, rfl, ho3, hb3⟩; have HO3 := Aside0.mk (Kd.R_mono (ok' := fun k => k < w3.heap.size ∧ w2.heap.size ≤ k) (Kd.R_bound ho3) (fun k hk => ⟨hk.2.2.1, hk.2.1⟩)); have HB3 := Aside0.mk (below_then HB2.out HB2.out.size hb3); have HX13 := Aside0.mk (blk_below HX12.out hb3); have HX23 := Aside0.mk (blk_below HX2.out hb3); have HS3 := Aside0.mk hb3.size; have s0 := (blk_cell HX13.out 0).trans rfl; have s1 := (blk_cell HX13.out 1).trans rfl; clear hb3 ho3)
    | (go_at_call 140; refine (table_clone.calls a0 A c l a0 l _ (Kd.C_below HC.out HB3.out) hlc HCL.out).mono ?_; rintro e w4 ⟨v4, rfl, ho4, hb4⟩; have HO4 := Aside0.mk ho4; have HO34 := Aside0.mk (Kd.R_below HO3.out hb4); have HB4 := Aside0.mk (below_then HB3.out HB3.out.size hb4); have HX14 := Aside0.mk (blk_below HX13.out hb4); have HX24 := Aside0.mk (blk_below HX23.out hb4); have HS4 := Aside0.mk hb4.size; obtain ⟨A4, c4, e4⟩ := Kd.R_slice ho4; subst e4; have HL1 := Aside0.mk (show g1 < w2.heap.size from blk_lt HX12.out); have HL2 := Aside0.mk (show g2 < w2.heap.size from blk_lt HX2.out); clear hb4 ho4)
    | ((with_reducible refine gate_store (t := 25) (p := 2) (v := .tmp 11) rfl ?_); refine box_store rfl rfl 25 (.tmp 2) (.tmp 11) rfl [.int .i64 a0, .slice A4 l.length c4] _ rfl rfl rfl (by rfl) (by simp [Value.oneCell']) HX14.out rfl ?_; intro w5 hbk hg5 hsz5; have HX15 := Aside0.mk hbk; have HZ5 := Aside0.mk (Nat.le_of_eq hsz5.symm); have u1 := (blk_cell hbk 1).trans rfl; have HX25 := Aside0.mk ((hg5.block g2 (blk_lt HX24.out) (fun e => HN.out (by injection e with e; exact e.symm))).trans HX24.out); have HB5 := Aside0.mk (HB4.out.grown hg5 HB4.out.size (fun k hk => by injection hk with hk; rw [← hk]; exact HG1.out)); have HO5 := Aside0.mk (Kd.R_mono (ok' := fun _ => True) (Kd.R_move (Kd.R_bound HO4.out) (fun k hk => hg5.block k hk.2.2.1 (fun e => by injection e with e; have := hk.2.1; have := HL1.out; have := HS3.out; omega))) (fun _ _ => trivial)); have HO35 := Aside0.mk (Kd.R_move HO34.out (fun k hk => hg5.block k (by have := hk.1; have := HS4.out; omega) (fun e => by injection e with e; have := hk.2; have := HL1.out; omega))); clear hbk hg5 hsz5)
    | (go_at_call 158; refine (deleteFunc_calls g lb eg p _ l w5 w3.heap.size (by have := HS4.out; have := HZ5.out; omega) HO5.out (fun W x0 x1 x2 x3 hW => HP.out W x0 x1 x2 x3 (grown_new HB5.out hW (fun j hj => by have := Kd.R_base HO5.out j hj; have := HB3.out.size; omega)))).mono ?_; rintro e w6 ⟨v6, rfl, ho6, hg6⟩; have HRB := Aside0.mk (Kd.R_base HO5.out); obtain ⟨A6, c6, e6⟩ := Kd.R_slice ho6; subst e6; have HO6 := Aside0.mk ho6; have HX16 := Aside0.mk ((hg6.block g1 (blk_lt HX15.out) (fun e => by have := HRB.out g1 e.symm; have := HL1.out; have := HS3.out; omega)).trans HX15.out); have HX26 := Aside0.mk ((hg6.block g2 (blk_lt HX25.out) (fun e => by have := HRB.out g2 e.symm; have := HL2.out; have := HS3.out; omega)).trans HX25.out); have HB6 := Aside0.mk (HB5.out.grown hg6 HB5.out.size (fun k hk => by have := HRB.out k hk; have := HB3.out.size; omega)); have HO36 := Aside0.mk (Kd.R_move HO35.out (fun k hk => hg6.block k (by have := hk.1; have := HS4.out; have := HZ5.out; omega) (fun e => by have := HRB.out k e.symm; have := hk.1; omega))); have y0 := (blk_cell HX16.out 0).trans rfl; have y1 := (blk_cell HX16.out 1).trans rfl; have y2 := blk_frozen HX16.out 0; have y3 := blk_frozen HX16.out 1; have z0 := (blk_cell HX26.out 0).trans rfl; have z1 := (blk_cell HX26.out 1).trans rfl; have z2 := blk_frozen HX26.out 0; have z3 := blk_frozen HX26.out 1; have n1 := HN.out; have n2 := HN.out.symm; clear hg6 ho6))
  have hgw : w.heap.size ≤ g1 ∧ w.heap.size ≤ g2 := ⟨HG1.out, HG2.out⟩
  have hfar : ∀ k, k ≠ g1 → k ≠ g2 → (((w6.setCell ⟨g1, 1, none⟩ (.slice A6 (l.filter (fun x => !p x)).length c6)).setCell ⟨g2, 0, none⟩ (.int .i64 a0)).setCell ⟨g2, 1, none⟩ (.slice A6 (l.filter (fun x => !p x)).length c6)).heap[k]? = w6.heap[k]? := fun k h1 h2 =>
    (Below.heap_setCell _ _ _ _ h2).trans ((Below.heap_setCell _ _ _ _ h2).trans (Below.heap_setCell _ _ _ _ h1))
  refine bodyPost_ret (results_ct rfl _ _ g2 25 #[.int .i64 a0, .slice A6 (l.filter (fun x => !p x)).length c6] (0, 0) _ rfl (blk_put (blk_put (blk_far HX26.out n2 _) 0 _ rfl) 1 _ rfl) Try.underlying25 rfl (by kernel_rfl)) rfl ?_
  refine ⟨_, v3, rfl, ?_, ?_, ?_⟩
  · refine Kd.R_lower (Kd.R_mono (Kd.R_move (Kd.R_bound HO6.out) (fun k hk => hfar k (fun e => ?_) (fun e => ?_))) (fun k hk e => ?_)) HB3.out.size
    · have := hk.2.1; have := HL1.out; have := HS3.out; omega
    · have := hk.2.1; have := HL2.out; have := HS3.out; omega
    · have := (HO36.out.1 k e.symm).1; have := hk.2.1; omega
  · refine Kd.R_lower (Kd.R_mono (Kd.R_move HO36.out (fun k hk => hfar k (fun e => ?_) (fun e => ?_))) (fun k hk e => ?_)) HB2.out.size
    · have := hk.2; have := HL1.out; omega
    · have := hk.2; have := HL2.out; omega
    · have := Kd.R_base HO6.out k e.symm; have := hk.1; omega
  · exact ((HB6.out.setCell (p := ⟨g1, 1, none⟩) hgw.1 _).setCell (p := ⟨g2, 0, none⟩) hgw.2 _).setCell (p := ⟨g2, 1, none⟩) hgw.2 _

end Go.Proofs.Ytmfbpkjhabdcgaa.F
end
section
/- Contract of table.Of. -/
namespace Go.Proofs.Ytmfbpkjhabdcgaa.F
open Go.RowKit Go.Proofs.YtmfbpkjhabdcgaaW.PrintWords Go.Proofs.YtmfbpkjhabdcgaaW.PrintLast Go.Proofs.YtmfbpkjhabdcgaaW.PrintMore
set_option linter.unusedVariables false
set_option linter.unusedSimpArgs false

def table_Of.f (a0_0 : Int) (l0_1 : List (S29)) (a1 : Int) : Option ((List (S29)) × Int) :=
  (table_valid.f a0_0 l0_1).bind fun e => if e = 0 then (if a1 < 1 then some ([], 2) else if a1 > 8 then some ([], 2) else if l0_1.length < 4398046511104 then some (l0_1.filter (fun x => x.f2 == a1), 0) else none) else some ([], e)

set_option maxHeartbeats 4000000 in
set_option maxRecDepth 100000 in
theorem table_Of.calls (a0_0 : Int) (A0_1 : Option Addr) (c0_1 : Nat) (l0_1 : List (S29)) (a1 : Int) (r1 : List (S29)) (r2 : Int) (w : World) (hr0_1 : Kd.C k29 w A0_1 l0_1.length l0_1) (hc0_1 : l0_1.length ≤ c0_1) (h : table_Of.f a0_0 l0_1 a1 = some (r1, r2)) :
    Calls Try.prog 44 #[.agg #[.int .i64 a0_0, .slice A0_1 l0_1.length c0_1], .int .i64 a1] w fun e w' => ∃ v0_ : Value, e = .returned (.tuple #[v0_, .int .i64 r2]) ∧ Kd.R k29 29 w' w.heap.size (fun _ => True) v0_ r1 ∧ Below w.heap.size w w' := by
  have hu25 := Try.underlying25
  unfold table_Of.f at h
  obtain ⟨e, he, h⟩ := Option.bind_eq_some_iff.mp h
  have HE := Aside0.mk he
  have HC := Aside0.mk hr0_1
  clear he hr0_1
  by_cases c0 : e = 0
  · subst c0
    rw [if_pos rfl] at h
    by_cases c1 : a1 < 1
    · rw [if_pos c1] at h
      simp only [Option.some.injEq, Prod.mk.injEq] at h
      obtain ⟨rfl, rfl⟩ := h
      have d1 : decide (a1 < 1) = true := decide_eq_true c1
      clear c1
      go_enter Try.func44, Try.ntmps44
      go_wp2_with (first | ((with_reducible refine gate_dst (N := 2) rfl ?_); refine box_event ?hg (N := 2) ?hd (cs := #[.int .i64 a0_0, .slice A0_1 l0_1.length c0_1]) (t := 25) ?hr ?_; (case hd => rfl); (case hg => rfl); (case hr => first | (go_simp; done) | (go_simp; rfl)); intro gt hgt w3 hx3 hb3; have HB3 := Aside0.mk hb3; have HX3 := Aside0.mk hx3; clear hgt hb3 hx3) | ((with_reducible refine gate_dst (N := 3) rfl ?_); refine box_event ?hg (N := 3) ?hd (cs := #[.int .i64 a1]) (t := 3) ?hr ?_; (case hd => rfl); (case hg => rfl); (case hr => first | (go_simp; done) | (go_simp; rfl)); intro gc hgc w4 hx4 hb4; have HB4 := Aside0.mk (below_then HB3.out HB3.out.size hb4); have HX4 := Aside0.mk hx4; have HX34 := Aside0.mk (blk_below HX3.out hb4); have r0 := (blk_cell HX34.out 0).trans rfl; have r1 := (blk_cell HX34.out 1).trans rfl; clear hgc hb4 hx4) | (go_at_call 129; refine (table_valid.calls a0_0 A0_1 c0_1 l0_1 _ _ (Kd.C_below HC.out HB4.out) hc0_1 HE.out).mono ?_; rintro e w5 ⟨rfl, hb5⟩; have HB5 := Aside0.mk (below_then HB4.out HB4.out.size hb5); have HX5 := Aside0.mk (blk_below HX4.out hb5); have HX35 := Aside0.mk (blk_below HX34.out hb5); have s0 := (blk_cell HX35.out 0).trans rfl; have s1 := (blk_cell HX35.out 1).trans rfl; have s2 := (blk_cell HX5.out 0).trans rfl; clear hb5))
      refine bodyPost_ret (results_tmp2 rfl _ _ _) rfl ?_
      exact ⟨_, rfl, Kd.R_nil _ _ _ _ _, HB5.out⟩
    · rw [if_neg c1] at h
      have d1 : decide (a1 < 1) = false := decide_eq_false c1
      clear c1
      by_cases c2 : a1 > 8
      · rw [if_pos c2] at h
        simp only [Option.some.injEq, Prod.mk.injEq] at h
        obtain ⟨rfl, rfl⟩ := h
        have d2 : decide (8 < a1) = true := decide_eq_true c2
        clear c2
        go_enter Try.func44, Try.ntmps44
        go_wp2_with (first | ((with_reducible refine gate_dst (N := 2) rfl ?_); refine box_event ?hg (N := 2) ?hd (cs := #[.int .i64 a0_0, .slice A0_1 l0_1.length c0_1]) (t := 25) ?hr ?_; (case hd => rfl); (case hg => rfl); (case hr => first | (go_simp; done) | (go_simp; rfl)); intro gt hgt w3 hx3 hb3; have HB3 := Aside0.mk hb3; have HX3 := Aside0.mk hx3; clear hgt hb3 hx3) | ((with_reducible refine gate_dst (N := 3) rfl ?_); refine box_event ?hg (N := 3) ?hd (cs := #[.int .i64 a1]) (t := 3) ?hr ?_; (case hd => rfl); (case hg => rfl); (case hr => first | (go_simp; done) | (go_simp; rfl)); intro gc hgc w4 hx4 hb4; have HB4 := Aside0.mk (below_then HB3.out HB3.out.size hb4); have HX4 := Aside0.mk hx4; have HX34 := Aside0.mk (blk_below HX3.out hb4); have r0 := (blk_cell HX34.out 0).trans rfl; have r1 := (blk_cell HX34.out 1).trans rfl; clear hgc hb4 hx4) | (go_at_call 129; refine (table_valid.calls a0_0 A0_1 c0_1 l0_1 _ _ (Kd.C_below HC.out HB4.out) hc0_1 HE.out).mono ?_; rintro e w5 ⟨rfl, hb5⟩; have HB5 := Aside0.mk (below_then HB4.out HB4.out.size hb5); have HX5 := Aside0.mk (blk_below HX4.out hb5); have HX35 := Aside0.mk (blk_below HX34.out hb5); have s0 := (blk_cell HX35.out 0).trans rfl; have s1 := (blk_cell HX35.out 1).trans rfl; have s2 := (blk_cell HX5.out 0).trans rfl; clear hb5))
        refine bodyPost_ret (results_tmp2 rfl _ _ _) rfl ?_
        exact ⟨_, rfl, Kd.R_nil _ _ _ _ _, HB5.out⟩
      · rw [if_neg c2] at h
        have d2 : decide (8 < a1) = false := decide_eq_false c2
        clear c2
        split at h
        case isFalse => cases h
        case isTrue hl =>
        simp only [Option.some.injEq, Prod.mk.injEq] at h
        obtain ⟨rfl, rfl⟩ := h
        have HL := Aside0.mk hl
        clear hl
        go_enter Try.func44, Try.ntmps44
        go_wp2_with (first | ((with_reducible refine gate_dst (N := 2) rfl ?_); refine box_event ?hg (N := 2) ?hd (cs := #[.int .i64 a0_0, .slice A0_1 l0_1.length c0_1]) (t := 25) ?hr ?_; (case hd => rfl); (case hg => rfl); (case hr => first | (go_simp; done) | (go_simp; rfl)); intro gt hgt w3 hx3 hb3; have HB3 := Aside0.mk hb3; have HX3 := Aside0.mk hx3; clear hgt hb3 hx3) | ((with_reducible refine gate_dst (N := 3) rfl ?_); refine box_event ?hg (N := 3) ?hd (cs := #[.int .i64 a1]) (t := 3) ?hr ?_; (case hd => rfl); (case hg => rfl); (case hr => first | (go_simp; done) | (go_simp; rfl)); intro gc hgc w4 hx4 hb4; have HB4 := Aside0.mk (below_then HB3.out HB3.out.size hb4); have HX4 := Aside0.mk hx4; have HX34 := Aside0.mk (blk_below HX3.out hb4); have r0 := (blk_cell HX34.out 0).trans rfl; have r1 := (blk_cell HX34.out 1).trans rfl; clear hgc hb4 hx4) | (go_at_call 129; refine (table_valid.calls a0_0 A0_1 c0_1 l0_1 _ _ (Kd.C_below HC.out HB4.out) hc0_1 HE.out).mono ?_; rintro e w5 ⟨rfl, hb5⟩; have HB5 := Aside0.mk (below_then HB4.out HB4.out.size hb5); have HX5 := Aside0.mk (blk_below HX4.out hb5); have HX35 := Aside0.mk (blk_below HX34.out hb5); have s0 := (blk_cell HX35.out 0).trans rfl; have s1 := (blk_cell HX35.out 1).trans rfl; have s2 := (blk_cell HX5.out 0).trans rfl; clear hb5) | (go_at_call 130; refine (filter_calls 138 _ (enters_of Try.func138 (by kernel_rfl) rfl) (fun x => x.f2 == a1) a0_0 A0_1 c0_1 l0_1 _ (Kd.C_below HC.out HB5.out) hc0_1 HL.out (of1_pred _ none gc a1 HX5.out (fun e => by cases e))).mono ?_; rintro e w6 ⟨v6, rfl, ho6, hb6⟩; have HO6 := Aside0.mk (Kd.R_lower ho6 HB5.out.size); have HB6 := Aside0.mk (below_then HB5.out HB5.out.size hb6); clear ho6 hb6))
        refine bodyPost_ret (results_tmp2 rfl _ _ _) rfl ?_
        exact ⟨_, rfl, HO6.out, HB6.out⟩
  · rw [if_neg c0] at h
    simp only [Option.some.injEq, Prod.mk.injEq] at h
    obtain ⟨rfl, rfl⟩ := h
    have d0 : (e == 0) = false := beq_eq_false_iff_ne.mpr c0
    have d1 : (e != 0) = true := bne_iff_ne.mpr c0
    clear c0
    go_enter Try.func44, Try.ntmps44
    go_wp2_with (first | ((with_reducible refine gate_dst (N := 2) rfl ?_); refine box_event ?hg (N := 2) ?hd (cs := #[.int .i64 a0_0, .slice A0_1 l0_1.length c0_1]) (t := 25) ?hr ?_; (case hd => rfl); (case hg => rfl); (case hr => first | (go_simp; done) | (go_simp; rfl)); intro gt hgt w3 hx3 hb3; have HB3 := Aside0.mk hb3; have HX3 := Aside0.mk hx3; clear hgt hb3 hx3) | ((with_reducible refine gate_dst (N := 3) rfl ?_); refine box_event ?hg (N := 3) ?hd (cs := #[.int .i64 a1]) (t := 3) ?hr ?_; (case hd => rfl); (case hg => rfl); (case hr => first | (go_simp; done) | (go_simp; rfl)); intro gc hgc w4 hx4 hb4; have HB4 := Aside0.mk (below_then HB3.out HB3.out.size hb4); have HX4 := Aside0.mk hx4; have HX34 := Aside0.mk (blk_below HX3.out hb4); have r0 := (blk_cell HX34.out 0).trans rfl; have r1 := (blk_cell HX34.out 1).trans rfl; clear hgc hb4 hx4) | (go_at_call 129; refine (table_valid.calls a0_0 A0_1 c0_1 l0_1 _ _ (Kd.C_below HC.out HB4.out) hc0_1 HE.out).mono ?_; rintro e w5 ⟨rfl, hb5⟩; have HB5 := Aside0.mk (below_then HB4.out HB4.out.size hb5); have HX5 := Aside0.mk (blk_below HX4.out hb5); have HX35 := Aside0.mk (blk_below HX34.out hb5); have s0 := (blk_cell HX35.out 0).trans rfl; have s1 := (blk_cell HX35.out 1).trans rfl; have s2 := (blk_cell HX5.out 0).trans rfl; clear hb5))
    refine bodyPost_ret (results_tmp2 rfl _ _ _) rfl ?_
    exact ⟨_, rfl, Kd.R_nil _ _ _ _ _, HB5.out⟩

end Go.Proofs.Ytmfbpkjhabdcgaa.F
end
section
/- Contract of table.Serve. -/
namespace Go.Proofs.Ytmfbpkjhabdcgaa.F
open Go.RowKit Go.Proofs.YtmfbpkjhabdcgaaW.PrintWords Go.Proofs.YtmfbpkjhabdcgaaW.PrintLast Go.Proofs.YtmfbpkjhabdcgaaW.PrintMore
set_option linter.unusedVariables false
set_option linter.unusedSimpArgs false

def table_Serve.f (a0_0 : Int) (l0_1 : List (S29)) (a1 : Int) (a2 : Int) : Option (Int × (List (S29)) × (List (S29)) × Int) :=
  (table_valid.f a0_0 l0_1).bind fun e => if e = 0 then (if a1 < 0 then some (0, [], [], 2) else if a1 ≥ 64 then some (0, [], [], 2) else if a2 < 1 then some (0, [], [], 2) else if a2 > 8 then some (0, [], [], 2) else if l0_1.length < 4398046511104 then some (a0_0, l0_1.filter (fun x => !((fun x => x.f1 == a1 && (x.f0 != 3 || x.f2 == a2))) x), l0_1.filter (fun x => x.f1 == a1 && (x.f0 != 3 || x.f2 == a2)), 0) else none) else some (0, [], [], e)

set_option maxHeartbeats 4000000 in
set_option maxRecDepth 100000 in
theorem table_Serve.calls (a0_0 : Int) (A0_1 : Option Addr) (c0_1 : Nat) (l0_1 : List (S29)) (a1 : Int) (a2 : Int) (r1 : Int) (r2 : List (S29)) (r3 : List (S29)) (r4 : Int) (w : World) (hr0_1 : Kd.C k29 w A0_1 l0_1.length l0_1) (hc0_1 : l0_1.length ≤ c0_1) (h : table_Serve.f a0_0 l0_1 a1 a2 = some (r1, r2, r3, r4)) :
    Calls Try.prog 35 #[.agg #[.int .i64 a0_0, .slice A0_1 l0_1.length c0_1], .int .i64 a1, .int .i64 a2] w fun e w' => ∃ v1_ v2_ : Value, e = .returned (.tuple #[.agg #[.int .i64 r1, v1_], v2_, .int .i64 r4]) ∧ Kd.R k29 29 w' w.heap.size (fun k_ => some k_ ≠ (v2_ : Value).ownBlock) v1_ r2 ∧ Kd.R k29 29 w' w.heap.size (fun k_ => some k_ ≠ (v1_ : Value).ownBlock) v2_ r3 ∧ Below w.heap.size w w' := by
  have hu25 := Try.underlying25
  unfold table_Serve.f at h
  obtain ⟨e, he, h⟩ := Option.bind_eq_some_iff.mp h
  have HE := Aside0.mk he
  have HC := Aside0.mk hr0_1
  clear he hr0_1
  by_cases c0 : e = 0
  · subst c0
    rw [if_pos rfl] at h
    by_cases k0 : a1 < 0
    · rw [if_pos k0] at h
      simp only [Option.some.injEq, Prod.mk.injEq] at h
      obtain ⟨rfl, rfl, rfl, rfl⟩ := h
      have d0 : decide (a1 < 0) = true := decide_eq_true k0
      clear k0
      go_enter Try.func35, Try.ntmps35
      go_wp2_with (first | ((with_reducible refine gate_dst (N := 3) rfl ?_); refine box_event ?hg (N := 3) ?hd (cs := #[.int .i64 a0_0, .slice A0_1 l0_1.length c0_1]) (t := 25) ?hr ?_; (case hd => rfl); (case hg => rfl); (case hr => first | (go_simp; done) | (go_simp; rfl)); intro gt hg_ w1 hx_ hb_; have HB1 := Aside0.mk hb_; have HX1 := Aside0.mk hx_; clear hg_ hb_ hx_) | ((with_reducible refine gate_dst (N := 4) rfl ?_); refine box_event ?hg (N := 4) ?hd (cs := #[.int .i64 a1]) (t := 3) ?hr ?_; (case hd => rfl); (case hg => rfl); (case hr => first | (go_simp; done) | (go_simp; rfl)); intro gf hg_ w2 hx_ hb_; have HB2 := Aside0.mk (below_then HB1.out HB1.out.size hb_); have HF2 := Aside0.mk hx_; have HX2 := Aside0.mk (blk_below HX1.out hb_); clear hg_ hb_ hx_) | ((with_reducible refine gate_dst (N := 5) rfl ?_); refine box_event ?hg (N := 5) ?hd (cs := #[.int .i64 a2]) (t := 3) ?hr ?_; (case hd => rfl); (case hg => rfl); (case hr => first | (go_simp; done) | (go_simp; rfl)); intro gc hg_ w3 hx_ hb_; have HB3 := Aside0.mk (below_then HB2.out HB2.out.size hb_); have HC3 := Aside0.mk hx_; have HF3 := Aside0.mk (blk_below HF2.out hb_); have HX3 := Aside0.mk (blk_below HX2.out hb_); clear hg_ hb_ hx_) | ((with_reducible refine gate_dst (N := 6) rfl ?_); refine box_event ?hg (N := 6) ?hd (cs := #[.int .i64 0, .slice none 0 0]) (t := 25) ?hr ?_; (case hd => rfl); (case hg => rfl); (case hr => first | (go_simp; done) | (go_simp; rfl)); intro g6 hg_ w4 hx_ hb_; have HB4 := Aside0.mk (below_then HB3.out HB3.out.size hb_); have HG6 := Aside0.mk (show w.heap.size ≤ g6 by rw [hg_]; exact HB3.out.size); have H64 := Aside0.mk hx_; have HF4 := Aside0.mk (blk_below HF3.out hb_); have HC4 := Aside0.mk (blk_below HC3.out hb_); have HX4 := Aside0.mk (blk_below HX3.out hb_); have r0 := (blk_cell HX4.out 0).trans rfl; have r1 := (blk_cell HX4.out 1).trans rfl; clear hg_ hb_ hx_) | (go_at_call 129; refine (table_valid.calls a0_0 A0_1 c0_1 l0_1 _ _ (Kd.C_below HC.out HB4.out) hc0_1 HE.out).mono ?_; rintro e w5 ⟨rfl, hb_⟩; have HB5 := Aside0.mk (below_then HB4.out HB4.out.size hb_); have HF5 := Aside0.mk (blk_below HF4.out hb_); have HC5 := Aside0.mk (blk_below HC4.out hb_); have s2 := (blk_cell HF5.out 0).trans rfl; have s3 := (blk_cell HC5.out 0).trans rfl; have H65 := Aside0.mk (blk_below H64.out hb_); have HX5 := Aside0.mk (blk_below HX4.out hb_); have s0 := (blk_cell HX5.out 0).trans rfl; have s1 := (blk_cell HX5.out 1).trans rfl; have y0 := (blk_cell H65.out 0).trans rfl; have y1 := (blk_cell H65.out 1).trans rfl; have y2 := blk_frozen H65.out 0; have y3 := blk_frozen H65.out 1; clear hb_))
      refine bodyPost_ret (results_ctt rfl _ _ g6 25 #[.int .i64 0, .slice none 0 0] (0, 0) _ rfl (blk_put (blk_put H65.out 0 _ rfl) 1 _ rfl) Try.underlying25 rfl (by kernel_rfl)) rfl ?_
      exact ⟨_, _, rfl, Kd.R_nil _ _ _ _ _, Kd.R_nil _ _ _ _ _, (HB5.out.setCell (p := ⟨g6, 0, none⟩) HG6.out _).setCell (p := ⟨g6, 1, none⟩) HG6.out _⟩
    · rw [if_neg k0] at h
      have d0 : decide (a1 < 0) = false := decide_eq_false k0
      clear k0
      by_cases k1 : a1 ≥ 64
      · rw [if_pos k1] at h
        simp only [Option.some.injEq, Prod.mk.injEq] at h
        obtain ⟨rfl, rfl, rfl, rfl⟩ := h
        have d1 : decide (64 ≤ a1) = true := decide_eq_true k1
        clear k1
        go_enter Try.func35, Try.ntmps35
        go_wp2_with (first | ((with_reducible refine gate_dst (N := 3) rfl ?_); refine box_event ?hg (N := 3) ?hd (cs := #[.int .i64 a0_0, .slice A0_1 l0_1.length c0_1]) (t := 25) ?hr ?_; (case hd => rfl); (case hg => rfl); (case hr => first | (go_simp; done) | (go_simp; rfl)); intro gt hg_ w1 hx_ hb_; have HB1 := Aside0.mk hb_; have HX1 := Aside0.mk hx_; clear hg_ hb_ hx_) | ((with_reducible refine gate_dst (N := 4) rfl ?_); refine box_event ?hg (N := 4) ?hd (cs := #[.int .i64 a1]) (t := 3) ?hr ?_; (case hd => rfl); (case hg => rfl); (case hr => first | (go_simp; done) | (go_simp; rfl)); intro gf hg_ w2 hx_ hb_; have HB2 := Aside0.mk (below_then HB1.out HB1.out.size hb_); have HF2 := Aside0.mk hx_; have HX2 := Aside0.mk (blk_below HX1.out hb_); clear hg_ hb_ hx_) | ((with_reducible refine gate_dst (N := 5) rfl ?_); refine box_event ?hg (N := 5) ?hd (cs := #[.int .i64 a2]) (t := 3) ?hr ?_; (case hd => rfl); (case hg => rfl); (case hr => first | (go_simp; done) | (go_simp; rfl)); intro gc hg_ w3 hx_ hb_; have HB3 := Aside0.mk (below_then HB2.out HB2.out.size hb_); have HC3 := Aside0.mk hx_; have HF3 := Aside0.mk (blk_below HF2.out hb_); have HX3 := Aside0.mk (blk_below HX2.out hb_); clear hg_ hb_ hx_) | ((with_reducible refine gate_dst (N := 6) rfl ?_); refine box_event ?hg (N := 6) ?hd (cs := #[.int .i64 0, .slice none 0 0]) (t := 25) ?hr ?_; (case hd => rfl); (case hg => rfl); (case hr => first | (go_simp; done) | (go_simp; rfl)); intro g6 hg_ w4 hx_ hb_; have HB4 := Aside0.mk (below_then HB3.out HB3.out.size hb_); have HG6 := Aside0.mk (show w.heap.size ≤ g6 by rw [hg_]; exact HB3.out.size); have H64 := Aside0.mk hx_; have HF4 := Aside0.mk (blk_below HF3.out hb_); have HC4 := Aside0.mk (blk_below HC3.out hb_); have HX4 := Aside0.mk (blk_below HX3.out hb_); have r0 := (blk_cell HX4.out 0).trans rfl; have r1 := (blk_cell HX4.out 1).trans rfl; clear hg_ hb_ hx_) | (go_at_call 129; refine (table_valid.calls a0_0 A0_1 c0_1 l0_1 _ _ (Kd.C_below HC.out HB4.out) hc0_1 HE.out).mono ?_; rintro e w5 ⟨rfl, hb_⟩; have HB5 := Aside0.mk (below_then HB4.out HB4.out.size hb_); have HF5 := Aside0.mk (blk_below HF4.out hb_); have HC5 := Aside0.mk (blk_below HC4.out hb_); have s2 := (blk_cell HF5.out 0).trans rfl; have s3 := (blk_cell HC5.out 0).trans rfl; have H65 := Aside0.mk (blk_below H64.out hb_); have HX5 := Aside0.mk (blk_below HX4.out hb_); have s0 := (blk_cell HX5.out 0).trans rfl; have s1 := (blk_cell HX5.out 1).trans rfl; have y0 := (blk_cell H65.out 0).trans rfl; have y1 := (blk_cell H65.out 1).trans rfl; have y2 := blk_frozen H65.out 0; have y3 := blk_frozen H65.out 1; clear hb_))
        refine bodyPost_ret (results_ctt rfl _ _ g6 25 #[.int .i64 0, .slice none 0 0] (0, 0) _ rfl (blk_put (blk_put H65.out 0 _ rfl) 1 _ rfl) Try.underlying25 rfl (by kernel_rfl)) rfl ?_
        exact ⟨_, _, rfl, Kd.R_nil _ _ _ _ _, Kd.R_nil _ _ _ _ _, (HB5.out.setCell (p := ⟨g6, 0, none⟩) HG6.out _).setCell (p := ⟨g6, 1, none⟩) HG6.out _⟩
      · rw [if_neg k1] at h
        have d1 : decide (64 ≤ a1) = false := decide_eq_false k1
        clear k1
        by_cases k2 : a2 < 1
        · rw [if_pos k2] at h
          simp only [Option.some.injEq, Prod.mk.injEq] at h
          obtain ⟨rfl, rfl, rfl, rfl⟩ := h
          have d2 : decide (a2 < 1) = true := decide_eq_true k2
          clear k2
          go_enter Try.func35, Try.ntmps35
          go_wp2_with (first | ((with_reducible refine gate_dst (N := 3) rfl ?_); refine box_event ?hg (N := 3) ?hd (cs := #[.int .i64 a0_0, .slice A0_1 l0_1.length c0_1]) (t := 25) ?hr ?_; (case hd => rfl); (case hg => rfl); (case hr => first | (go_simp; done) | (go_simp; rfl)); intro gt hg_ w1 hx_ hb_; have HB1 := Aside0.mk hb_; have HX1 := Aside0.mk hx_; clear hg_ hb_ hx_) | ((with_reducible refine gate_dst (N := 4) rfl ?_); refine box_event ?hg (N := 4) ?hd (cs := #[.int .i64 a1]) (t := 3) ?hr ?_; (case hd => rfl); (case hg => rfl); (case hr => first | (go_simp; done) | (go_simp; rfl)); intro gf hg_ w2 hx_ hb_; have HB2 := Aside0.mk (below_then HB1.out HB1.out.size hb_); have HF2 := Aside0.mk hx_; have HX2 := Aside0.mk (blk_below HX1.out hb_); clear hg_ hb_ hx_) | ((with_reducible refine gate_dst (N := 5) rfl ?_); refine box_event ?hg (N := 5) ?hd (cs := #[.int .i64 a2]) (t := 3) ?hr ?_; (case hd => rfl); (case hg => rfl); (case hr => first | (go_simp; done) | (go_simp; rfl)); intro gc hg_ w3 hx_ hb_; have HB3 := Aside0.mk (below_then HB2.out HB2.out.size hb_); have HC3 := Aside0.mk hx_; have HF3 := Aside0.mk (blk_below HF2.out hb_); have HX3 := Aside0.mk (blk_below HX2.out hb_); clear hg_ hb_ hx_) | ((with_reducible refine gate_dst (N := 6) rfl ?_); refine box_event ?hg (N := 6) ?hd (cs := #[.int .i64 0, .slice none 0 0]) (t := 25) ?hr ?_; (case hd => rfl); (case hg => rfl); (case hr => first | (go_simp; done) | (go_simp; rfl)); intro g6 hg_ w4 hx_ hb_; have HB4 := Aside0.mk (below_then HB3.out HB3.out.size hb_); have HG6 := Aside0.mk (show w.heap.size ≤ g6 by rw [hg_]; exact HB3.out.size); have H64 := Aside0.mk hx_; have HF4 := Aside0.mk (blk_below HF3.out hb_); have HC4 := Aside0.mk (blk_below HC3.out hb_); have HX4 := Aside0.mk (blk_below HX3.out hb_); have r0 := (blk_cell HX4.out 0).trans rfl; have r1 := (blk_cell HX4.out 1).trans rfl; clear hg_ hb_ hx_) | (go_at_call 129; refine (table_valid.calls a0_0 A0_1 c0_1 l0_1 _ _ (Kd.C_below HC.out HB4.out) hc0_1 HE.out).mono ?_; rintro e w5 ⟨rfl, hb_⟩; have HB5 := Aside0.mk (below_then HB4.out HB4.out.size hb_); have HF5 := Aside0.mk (blk_below HF4.out hb_); have HC5 := Aside0.mk (blk_below HC4.out hb_); have s2 := (blk_cell HF5.out 0).trans rfl; have s3 := (blk_cell HC5.out 0).trans rfl; have H65 := Aside0.mk (blk_below H64.out hb_); have HX5 := Aside0.mk (blk_below HX4.out hb_); have s0 := (blk_cell HX5.out 0).trans rfl; have s1 := (blk_cell HX5.out 1).trans rfl; have y0 := (blk_cell H65.out 0).trans rfl; have y1 := (blk_cell H65.out 1).trans rfl; have y2 := blk_frozen H65.out 0; have y3 := blk_frozen H65.out 1; clear hb_))
          refine bodyPost_ret (results_ctt rfl _ _ g6 25 #[.int .i64 0, .slice none 0 0] (0, 0) _ rfl (blk_put (blk_put H65.out 0 _ rfl) 1 _ rfl) Try.underlying25 rfl (by kernel_rfl)) rfl ?_
          exact ⟨_, _, rfl, Kd.R_nil _ _ _ _ _, Kd.R_nil _ _ _ _ _, (HB5.out.setCell (p := ⟨g6, 0, none⟩) HG6.out _).setCell (p := ⟨g6, 1, none⟩) HG6.out _⟩
        · rw [if_neg k2] at h
          have d2 : decide (a2 < 1) = false := decide_eq_false k2
          clear k2
          by_cases k3 : a2 > 8
          · rw [if_pos k3] at h
            simp only [Option.some.injEq, Prod.mk.injEq] at h
            obtain ⟨rfl, rfl, rfl, rfl⟩ := h
            have d3 : decide (8 < a2) = true := decide_eq_true k3
            clear k3
            go_enter Try.func35, Try.ntmps35
            go_wp2_with (first | ((with_reducible refine gate_dst (N := 3) rfl ?_); refine box_event ?hg (N := 3) ?hd (cs := #[.int .i64 a0_0, .slice A0_1 l0_1.length c0_1]) (t := 25) ?hr ?_; (case hd => rfl); (case hg => rfl); (case hr => first | (go_simp; done) | (go_simp; rfl)); intro gt hg_ w1 hx_ hb_; have HB1 := Aside0.mk hb_; have HX1 := Aside0.mk hx_; clear hg_ hb_ hx_) | ((with_reducible refine gate_dst (N := 4) rfl ?_); refine box_event ?hg (N := 4) ?hd (cs := #[.int .i64 a1]) (t := 3) ?hr ?_; (case hd => rfl); (case hg => rfl); (case hr => first | (go_simp; done) | (go_simp; rfl)); intro gf hg_ w2 hx_ hb_; have HB2 := Aside0.mk (below_then HB1.out HB1.out.size hb_); have HF2 := Aside0.mk hx_; have HX2 := Aside0.mk (blk_below HX1.out hb_); clear hg_ hb_ hx_) | ((with_reducible refine gate_dst (N := 5) rfl ?_); refine box_event ?hg (N := 5) ?hd (cs := #[.int .i64 a2]) (t := 3) ?hr ?_; (case hd => rfl); (case hg => rfl); (case hr => first | (go_simp; done) | (go_simp; rfl)); intro gc hg_ w3 hx_ hb_; have HB3 := Aside0.mk (below_then HB2.out HB2.out.size hb_); have HC3 := Aside0.mk hx_; have HF3 := Aside0.mk (blk_below HF2.out hb_); have HX3 := Aside0.mk (blk_below HX2.out hb_); clear hg_ hb_ hx_) | ((with_reducible refine gate_dst (N := 6) rfl ?_); refine box_event ?hg (N := 6) ?hd (cs := #[.int .i64 0, .slice none 0 0]) (t := 25) ?hr ?_; (case hd => rfl); (case hg => rfl); (case hr => first | (go_simp; done) | (go_simp; rfl)); intro g6 hg_ w4 hx_ hb_; have HB4 := Aside0.mk (below_then HB3.out HB3.out.size hb_); have HG6 := Aside0.mk (show w.heap.size ≤ g6 by rw [hg_]; exact HB3.out.size); have H64 := Aside0.mk hx_; have HF4 := Aside0.mk (blk_below HF3.out hb_); have HC4 := Aside0.mk (blk_below HC3.out hb_); have HX4 := Aside0.mk (blk_below HX3.out hb_); have r0 := (blk_cell HX4.out 0).trans rfl; have r1 := (blk_cell HX4.out 1).trans rfl; clear hg_ hb_ hx_) | (go_at_call 129; refine (table_valid.calls a0_0 A0_1 c0_1 l0_1 _ _ (Kd.C_below HC.out HB4.out) hc0_1 HE.out).mono ?_; rintro e w5 ⟨rfl, hb_⟩; have HB5 := Aside0.mk (below_then HB4.out HB4.out.size hb_); have HF5 := Aside0.mk (blk_below HF4.out hb_); have HC5 := Aside0.mk (blk_below HC4.out hb_); have s2 := (blk_cell HF5.out 0).trans rfl; have s3 := (blk_cell HC5.out 0).trans rfl; have H65 := Aside0.mk (blk_below H64.out hb_); have HX5 := Aside0.mk (blk_below HX4.out hb_); have s0 := (blk_cell HX5.out 0).trans rfl; have s1 := (blk_cell HX5.out 1).trans rfl; have y0 := (blk_cell H65.out 0).trans rfl; have y1 := (blk_cell H65.out 1).trans rfl; have y2 := blk_frozen H65.out 0; have y3 := blk_frozen H65.out 1; clear hb_))
            refine bodyPost_ret (results_ctt rfl _ _ g6 25 #[.int .i64 0, .slice none 0 0] (0, 0) _ rfl (blk_put (blk_put H65.out 0 _ rfl) 1 _ rfl) Try.underlying25 rfl (by kernel_rfl)) rfl ?_
            exact ⟨_, _, rfl, Kd.R_nil _ _ _ _ _, Kd.R_nil _ _ _ _ _, (HB5.out.setCell (p := ⟨g6, 0, none⟩) HG6.out _).setCell (p := ⟨g6, 1, none⟩) HG6.out _⟩
          · rw [if_neg k3] at h
            have d3 : decide (8 < a2) = false := decide_eq_false k3
            clear k3
            split at h
            case isFalse => cases h
            case isTrue hl =>
            simp only [Option.some.injEq, Prod.mk.injEq] at h
            obtain ⟨rfl, rfl, rfl, rfl⟩ := h
            have HL := Aside0.mk hl
            clear hl
            go_enter Try.func35, Try.ntmps35
            go_wp2_with (first | ((with_reducible refine gate_dst (N := 3) rfl ?_); refine box_event ?hg (N := 3) ?hd (cs := #[.int .i64 a0_0, .slice A0_1 l0_1.length c0_1]) (t := 25) ?hr ?_; (case hd => rfl); (case hg => rfl); (case hr => first | (go_simp; done) | (go_simp; rfl)); intro gt hg_ w1 hx_ hb_; have HB1 := Aside0.mk hb_; have HX1 := Aside0.mk hx_; clear hg_ hb_ hx_) | ((with_reducible refine gate_dst (N := 4) rfl ?_); refine box_event ?hg (N := 4) ?hd (cs := #[.int .i64 a1]) (t := 3) ?hr ?_; (case hd => rfl); (case hg => rfl); (case hr => first | (go_simp; done) | (go_simp; rfl)); intro gf hg_ w2 hx_ hb_; have HB2 := Aside0.mk (below_then HB1.out HB1.out.size hb_); have HF2 := Aside0.mk hx_; have HX2 := Aside0.mk (blk_below HX1.out hb_); clear hg_ hb_ hx_) | ((with_reducible refine gate_dst (N := 5) rfl ?_); refine box_event ?hg (N := 5) ?hd (cs := #[.int .i64 a2]) (t := 3) ?hr ?_; (case hd => rfl); (case hg => rfl); (case hr => first | (go_simp; done) | (go_simp; rfl)); intro gc hg_ w3 hx_ hb_; have HB3 := Aside0.mk (below_then HB2.out HB2.out.size hb_); have HC3 := Aside0.mk hx_; have HF3 := Aside0.mk (blk_below HF2.out hb_); have HX3 := Aside0.mk (blk_below HX2.out hb_); clear hg_ hb_ hx_) | ((with_reducible refine gate_dst (N := 6) rfl ?_); refine box_event ?hg (N := 6) ?hd (cs := #[.int .i64 0, .slice none 0 0]) (t := 25) ?hr ?_; (case hd => rfl); (case hg => rfl); (case hr => first | (go_simp; done) | (go_simp; rfl)); intro g6 hg_ w4 hx_ hb_; have HB4 := Aside0.mk (below_then HB3.out HB3.out.size hb_); have HG6 := Aside0.mk (show w.heap.size ≤ g6 by rw [hg_]; exact HB3.out.size); have H64 := Aside0.mk hx_; have HF4 := Aside0.mk (blk_below HF3.out hb_); have HC4 := Aside0.mk (blk_below HC3.out hb_); have HX4 := Aside0.mk (blk_below HX3.out hb_); have r0 := (blk_cell HX4.out 0).trans rfl; have r1 := (blk_cell HX4.out 1).trans rfl; clear hg_ hb_ hx_) | (go_at_call 129; refine (table_valid.calls a0_0 A0_1 c0_1 l0_1 _ _ (Kd.C_below HC.out HB4.out) hc0_1 HE.out).mono ?_; rintro e w5 ⟨rfl, hb_⟩; have HB5 := Aside0.mk (below_then HB4.out HB4.out.size hb_); have HF5 := Aside0.mk (blk_below HF4.out hb_); have HC5 := Aside0.mk (blk_below HC4.out hb_); have s2 := (blk_cell HF5.out 0).trans rfl; have s3 := (blk_cell HC5.out 0).trans rfl; have H65 := Aside0.mk (blk_below H64.out hb_); have HX5 := Aside0.mk (blk_below HX4.out hb_); have s0 := (blk_cell HX5.out 0).trans rfl; have s1 := (blk_cell HX5.out 1).trans rfl; have y0 := (blk_cell H65.out 0).trans rfl; have y1 := (blk_cell H65.out 1).trans rfl; have y2 := blk_frozen H65.out 0; have y3 := blk_frozen H65.out 1; clear hb_) | (go_at_call 133; refine (without_calls 134 _ (enters_of Try.func134 (by kernel_rfl) rfl) (fun x => x.f1 == a1 && (x.f0 != 3 || x.f2 == a2)) a0_0 A0_1 c0_1 l0_1 _ (Kd.C_below HC.out HB5.out) hc0_1 HL.out (serve1_pred _ none gf gc a1 a2 HF5.out (fun e => by cases e) HC5.out (fun e => by cases e))).mono ?_; rintro e w6 ⟨v1, v2, rfl, ho1, ho2, hb6⟩; obtain ⟨A1, n1, c1, e1⟩ : ∃ A n c, v1 = Value.slice A n c := ⟨_, _, _, (Kd.R_slice ho1).choose_spec.choose_spec⟩; subst e1; have HO1 := Aside0.mk ho1; have HO2 := Aside0.mk ho2; have HB6 := Aside0.mk (below_then HB5.out HB5.out.size hb6); have H66 := Aside0.mk (blk_below H65.out hb6); have HL6 := Aside0.mk (show g6 < w5.heap.size from blk_lt H65.out); have hl6 := blk_lt H66.out; have z0 := (blk_cell H66.out 0).trans rfl; have z1 := (blk_cell H66.out 1).trans rfl; have z2 := blk_frozen H66.out 0; have z3 := blk_frozen H66.out 1; clear ho1 ho2 hb6))
            have hw6 := HB6.out.size
            refine bodyPost_ret (results_ctt rfl _ _ g6 25 #[.int .i64 a0_0, .slice A1 n1 c1] (0, 0) _ rfl (blk_alloc (blk_put (blk_put H66.out 0 _ rfl) 1 _ rfl) _) Try.underlying25 rfl (by kernel_rfl)) rfl ?_
            refine ⟨_, v2, rfl, Kd.R_lower (Kd.R_mono (Kd.R_move (Kd.R_bound HO1.out) (fun k hk => (Below.heap_alloc _ _ _ (by simpa [World.setCell] using hk.2.2.1)).trans ((Below.heap_setCell _ _ _ _ (fun e => ?_)).trans (Below.heap_setCell _ _ _ _ (fun e => ?_))))) (fun k hk => hk.1)) HB5.out.size, Kd.R_lower (Kd.R_mono (Kd.R_move (Kd.R_bound HO2.out) (fun k hk => (Below.heap_alloc _ _ _ (by simpa [World.setCell] using hk.2.2.1)).trans ((Below.heap_setCell _ _ _ _ (fun e => ?_)).trans (Below.heap_setCell _ _ _ _ (fun e => ?_))))) (fun k hk => hk.1)) HB5.out.size, ((HB6.out.setCell (p := ⟨g6, 0, none⟩) HG6.out _).setCell (p := ⟨g6, 1, none⟩) HG6.out _).alloc (by simpa [World.setCell] using hw6) _⟩
            all_goals (have := hk.2.1; have := HL6.out; have e' : k = g6 := e; omega)
  · rw [if_neg c0] at h
    simp only [Option.some.injEq, Prod.mk.injEq] at h
    obtain ⟨rfl, rfl, rfl, rfl⟩ := h
    have d0 : (e == 0) = false := beq_eq_false_iff_ne.mpr c0
    have d1 : (e != 0) = true := bne_iff_ne.mpr c0
    clear c0
    go_enter Try.func35, Try.ntmps35
    go_wp2_with (first | ((with_reducible refine gate_dst (N := 3) rfl ?_); refine box_event ?hg (N := 3) ?hd (cs := #[.int .i64 a0_0, .slice A0_1 l0_1.length c0_1]) (t := 25) ?hr ?_; (case hd => rfl); (case hg => rfl); (case hr => first | (go_simp; done) | (go_simp; rfl)); intro gt hg_ w1 hx_ hb_; have HB1 := Aside0.mk hb_; have HX1 := Aside0.mk hx_; clear hg_ hb_ hx_) | ((with_reducible refine gate_dst (N := 4) rfl ?_); refine box_event ?hg (N := 4) ?hd (cs := #[.int .i64 a1]) (t := 3) ?hr ?_; (case hd => rfl); (case hg => rfl); (case hr => first | (go_simp; done) | (go_simp; rfl)); intro gf hg_ w2 hx_ hb_; have HB2 := Aside0.mk (below_then HB1.out HB1.out.size hb_); have HF2 := Aside0.mk hx_; have HX2 := Aside0.mk (blk_below HX1.out hb_); clear hg_ hb_ hx_) | ((with_reducible refine gate_dst (N := 5) rfl ?_); refine box_event ?hg (N := 5) ?hd (cs := #[.int .i64 a2]) (t := 3) ?hr ?_; (case hd => rfl); (case hg => rfl); (case hr => first | (go_simp; done) | (go_simp; rfl)); intro gc hg_ w3 hx_ hb_; have HB3 := Aside0.mk (below_then HB2.out HB2.out.size hb_); have HC3 := Aside0.mk hx_; have HF3 := Aside0.mk (blk_below HF2.out hb_); have HX3 := Aside0.mk (blk_below HX2.out hb_); clear hg_ hb_ hx_) | ((with_reducible refine gate_dst (N := 6) rfl ?_); refine box_event ?hg (N := 6) ?hd (cs := #[.int .i64 0, .slice none 0 0]) (t := 25) ?hr ?_; (case hd => rfl); (case hg => rfl); (case hr => first | (go_simp; done) | (go_simp; rfl)); intro g6 hg_ w4 hx_ hb_; have HB4 := Aside0.mk (below_then HB3.out HB3.out.size hb_); have HG6 := Aside0.mk (show w.heap.size ≤ g6 by rw [hg_]; exact HB3.out.size); have H64 := Aside0.mk hx_; have HF4 := Aside0.mk (blk_below HF3.out hb_); have HC4 := Aside0.mk (blk_below HC3.out hb_); have HX4 := Aside0.mk (blk_below HX3.out hb_); have r0 := (blk_cell HX4.out 0).trans rfl; have r1 := (blk_cell HX4.out 1).trans rfl; clear hg_ hb_ hx_) | (go_at_call 129; refine (table_valid.calls a0_0 A0_1 c0_1 l0_1 _ _ (Kd.C_below HC.out HB4.out) hc0_1 HE.out).mono ?_; rintro e w5 ⟨rfl, hb_⟩; have HB5 := Aside0.mk (below_then HB4.out HB4.out.size hb_); have HF5 := Aside0.mk (blk_below HF4.out hb_); have HC5 := Aside0.mk (blk_below HC4.out hb_); have s2 := (blk_cell HF5.out 0).trans rfl; have s3 := (blk_cell HC5.out 0).trans rfl; have H65 := Aside0.mk (blk_below H64.out hb_); have HX5 := Aside0.mk (blk_below HX4.out hb_); have s0 := (blk_cell HX5.out 0).trans rfl; have s1 := (blk_cell HX5.out 1).trans rfl; have y0 := (blk_cell H65.out 0).trans rfl; have y1 := (blk_cell H65.out 1).trans rfl; have y2 := blk_frozen H65.out 0; have y3 := blk_frozen H65.out 1; clear hb_))
    refine bodyPost_ret (results_ctt rfl _ _ g6 25 #[.int .i64 0, .slice none 0 0] (0, 0) _ rfl (blk_put (blk_put H65.out 0 _ rfl) 1 _ rfl) Try.underlying25 rfl (by kernel_rfl)) rfl ?_
    exact ⟨_, _, rfl, Kd.R_nil _ _ _ _ _, Kd.R_nil _ _ _ _ _, (HB5.out.setCell (p := ⟨g6, 0, none⟩) HG6.out _).setCell (p := ⟨g6, 1, none⟩) HG6.out _⟩

end Go.Proofs.Ytmfbpkjhabdcgaa.F
end
section
/- Contract of table.Wipe. -/
namespace Go.Proofs.Ytmfbpkjhabdcgaa.F
open Go.RowKit Go.Proofs.YtmfbpkjhabdcgaaW.PrintWords Go.Proofs.YtmfbpkjhabdcgaaW.PrintLast Go.Proofs.YtmfbpkjhabdcgaaW.PrintMore
set_option linter.unusedVariables false
set_option linter.unusedSimpArgs false

def table_Wipe.f (a0_0 : Int) (l0_1 : List (S29)) : Option (Int × (List (S29)) × (List (S29)) × Int) :=
  (table_valid.f a0_0 l0_1).bind fun e => if e = 0 then (if l0_1.length < 4398046511104 then some (a0_0, l0_1.filter (fun x => !((fun x => !(x.f0 != 3))) x), l0_1.filter (fun x => !(x.f0 != 3)), 0) else none) else some (0, [], [], e)

set_option maxHeartbeats 4000000 in
set_option maxRecDepth 100000 in
theorem table_Wipe.calls (a0_0 : Int) (A0_1 : Option Addr) (c0_1 : Nat) (l0_1 : List (S29)) (r1 : Int) (r2 : List (S29)) (r3 : List (S29)) (r4 : Int) (w : World) (hr0_1 : Kd.C k29 w A0_1 l0_1.length l0_1) (hc0_1 : l0_1.length ≤ c0_1) (h : table_Wipe.f a0_0 l0_1 = some (r1, r2, r3, r4)) :
    Calls Try.prog 38 #[.agg #[.int .i64 a0_0, .slice A0_1 l0_1.length c0_1]] w fun e w' => ∃ v1_ v2_ : Value, e = .returned (.tuple #[.agg #[.int .i64 r1, v1_], v2_, .int .i64 r4]) ∧ Kd.R k29 29 w' w.heap.size (fun k_ => some k_ ≠ (v2_ : Value).ownBlock) v1_ r2 ∧ Kd.R k29 29 w' w.heap.size (fun k_ => some k_ ≠ (v1_ : Value).ownBlock) v2_ r3 ∧ Below w.heap.size w w' := by
  have hu25 := Try.underlying25
  unfold table_Wipe.f at h
  obtain ⟨e, he, h⟩ := Option.bind_eq_some_iff.mp h
  have HE := Aside0.mk he
  have HC := Aside0.mk hr0_1
  clear he hr0_1
  by_cases c0 : e = 0
  · subst c0
    rw [if_pos rfl] at h
    split at h
    case isFalse => cases h
    case isTrue hl =>
    simp only [Option.some.injEq, Prod.mk.injEq] at h
    obtain ⟨rfl, rfl, rfl, rfl⟩ := h
    have HL := Aside0.mk hl
    clear hl
    go_enter Try.func38, Try.ntmps38
    go_wp2_with (first | ((with_reducible refine gate_dst (N := 1) rfl ?_); refine box_event ?hg (N := 1) ?hd (cs := #[.int .i64 a0_0, .slice A0_1 l0_1.length c0_1]) (t := 25) ?hr ?_; (case hd => rfl); (case hg => rfl); (case hr => first | (go_simp; done) | (go_simp; rfl)); intro gt hg_ w3 hx_ hb_; have HB3 := Aside0.mk hb_; have HX3 := Aside0.mk hx_; clear hg_ hb_ hx_) | ((with_reducible refine gate_dst (N := 2) rfl ?_); refine box_event ?hg (N := 2) ?hd (cs := #[.int .i64 0, .slice none 0 0]) (t := 25) ?hr ?_; (case hd => rfl); (case hg => rfl); (case hr => first | (go_simp; done) | (go_simp; rfl)); intro g6 hg_ w4 hx_ hb_; have HB4 := Aside0.mk (below_then HB3.out HB3.out.size hb_); have HG6 := Aside0.mk (show w.heap.size ≤ g6 by rw [hg_]; exact HB3.out.size); have H64 := Aside0.mk hx_; have HX4 := Aside0.mk (blk_below HX3.out hb_); have r0 := (blk_cell HX4.out 0).trans rfl; have r1 := (blk_cell HX4.out 1).trans rfl; clear hg_ hb_ hx_) | (go_at_call 129; refine (table_valid.calls a0_0 A0_1 c0_1 l0_1 _ _ (Kd.C_below HC.out HB4.out) hc0_1 HE.out).mono ?_; rintro e w5 ⟨rfl, hb_⟩; have HB5 := Aside0.mk (below_then HB4.out HB4.out.size hb_); have H65 := Aside0.mk (blk_below H64.out hb_); have HX5 := Aside0.mk (blk_below HX4.out hb_); have s0 := (blk_cell HX5.out 0).trans rfl; have s1 := (blk_cell HX5.out 1).trans rfl; have y0 := (blk_cell H65.out 0).trans rfl; have y1 := (blk_cell H65.out 1).trans rfl; have y2 := blk_frozen H65.out 0; have y3 := blk_frozen H65.out 1; clear hb_) | (go_at_call 133; refine (without_calls 137 _ (enters_of Try.func137 (by kernel_rfl) rfl) (fun x => !(x.f0 != 3)) a0_0 A0_1 c0_1 l0_1 _ (Kd.C_below HC.out HB5.out) hc0_1 HL.out (wipe1_pred _ none)).mono ?_; rintro e w6 ⟨v1, v2, rfl, ho1, ho2, hb6⟩; obtain ⟨A1, n1, c1, e1⟩ : ∃ A n c, v1 = Value.slice A n c := ⟨_, _, _, (Kd.R_slice ho1).choose_spec.choose_spec⟩; subst e1; have HO1 := Aside0.mk ho1; have HO2 := Aside0.mk ho2; have HB6 := Aside0.mk (below_then HB5.out HB5.out.size hb6); have H66 := Aside0.mk (blk_below H65.out hb6); have HL6 := Aside0.mk (show g6 < w5.heap.size from blk_lt H65.out); have hl6 := blk_lt H66.out; have z0 := (blk_cell H66.out 0).trans rfl; have z1 := (blk_cell H66.out 1).trans rfl; have z2 := blk_frozen H66.out 0; have z3 := blk_frozen H66.out 1; clear ho1 ho2 hb6))
    have hw6 := HB6.out.size
    refine bodyPost_ret (results_ctt rfl _ _ g6 25 #[.int .i64 a0_0, .slice A1 n1 c1] (0, 0) _ rfl (blk_alloc (blk_put (blk_put H66.out 0 _ rfl) 1 _ rfl) _) Try.underlying25 rfl (by kernel_rfl)) rfl ?_
    refine ⟨_, v2, rfl, Kd.R_lower (Kd.R_mono (Kd.R_move (Kd.R_bound HO1.out) (fun k hk => (Below.heap_alloc _ _ _ (by simpa [World.setCell] using hk.2.2.1)).trans ((Below.heap_setCell _ _ _ _ (fun e => ?_)).trans (Below.heap_setCell _ _ _ _ (fun e => ?_))))) (fun k hk => hk.1)) HB5.out.size, Kd.R_lower (Kd.R_mono (Kd.R_move (Kd.R_bound HO2.out) (fun k hk => (Below.heap_alloc _ _ _ (by simpa [World.setCell] using hk.2.2.1)).trans ((Below.heap_setCell _ _ _ _ (fun e => ?_)).trans (Below.heap_setCell _ _ _ _ (fun e => ?_))))) (fun k hk => hk.1)) HB5.out.size, ((HB6.out.setCell (p := ⟨g6, 0, none⟩) HG6.out _).setCell (p := ⟨g6, 1, none⟩) HG6.out _).alloc (by simpa [World.setCell] using hw6) _⟩
    all_goals (have := hk.2.1; have := HL6.out; have e' : k = g6 := e; omega)
  · rw [if_neg c0] at h
    simp only [Option.some.injEq, Prod.mk.injEq] at h
    obtain ⟨rfl, rfl, rfl, rfl⟩ := h
    have d0 : (e == 0) = false := beq_eq_false_iff_ne.mpr c0
    have d1 : (e != 0) = true := bne_iff_ne.mpr c0
    clear c0
    go_enter Try.func38, Try.ntmps38
    go_wp2_with (first | ((with_reducible refine gate_dst (N := 1) rfl ?_); refine box_event ?hg (N := 1) ?hd (cs := #[.int .i64 a0_0, .slice A0_1 l0_1.length c0_1]) (t := 25) ?hr ?_; (case hd => rfl); (case hg => rfl); (case hr => first | (go_simp; done) | (go_simp; rfl)); intro gt hg_ w3 hx_ hb_; have HB3 := Aside0.mk hb_; have HX3 := Aside0.mk hx_; clear hg_ hb_ hx_) | ((with_reducible refine gate_dst (N := 2) rfl ?_); refine box_event ?hg (N := 2) ?hd (cs := #[.int .i64 0, .slice none 0 0]) (t := 25) ?hr ?_; (case hd => rfl); (case hg => rfl); (case hr => first | (go_simp; done) | (go_simp; rfl)); intro g6 hg_ w4 hx_ hb_; have HB4 := Aside0.mk (below_then HB3.out HB3.out.size hb_); have HG6 := Aside0.mk (show w.heap.size ≤ g6 by rw [hg_]; exact HB3.out.size); have H64 := Aside0.mk hx_; have HX4 := Aside0.mk (blk_below HX3.out hb_); have r0 := (blk_cell HX4.out 0).trans rfl; have r1 := (blk_cell HX4.out 1).trans rfl; clear hg_ hb_ hx_) | (go_at_call 129; refine (table_valid.calls a0_0 A0_1 c0_1 l0_1 _ _ (Kd.C_below HC.out HB4.out) hc0_1 HE.out).mono ?_; rintro e w5 ⟨rfl, hb_⟩; have HB5 := Aside0.mk (below_then HB4.out HB4.out.size hb_); have H65 := Aside0.mk (blk_below H64.out hb_); have HX5 := Aside0.mk (blk_below HX4.out hb_); have s0 := (blk_cell HX5.out 0).trans rfl; have s1 := (blk_cell HX5.out 1).trans rfl; have y0 := (blk_cell H65.out 0).trans rfl; have y1 := (blk_cell H65.out 1).trans rfl; have y2 := blk_frozen H65.out 0; have y3 := blk_frozen H65.out 1; clear hb_))
    refine bodyPost_ret (results_ctt rfl _ _ g6 25 #[.int .i64 0, .slice none 0 0] (0, 0) _ rfl (blk_put (blk_put H65.out 0 _ rfl) 1 _ rfl) Try.underlying25 rfl (by kernel_rfl)) rfl ?_
    exact ⟨_, _, rfl, Kd.R_nil _ _ _ _ _, Kd.R_nil _ _ _ _ _, (HB5.out.setCell (p := ⟨g6, 0, none⟩) HG6.out _).setCell (p := ⟨g6, 1, none⟩) HG6.out _⟩

end Go.Proofs.Ytmfbpkjhabdcgaa.F
end
