/- Part 5 of T5: what the functions reckon, step by step, and plain laws. No condition. -/
import Derived.Test.YtoekmdcldfmmcaaKT5x4
set_option linter.unusedVariables false
set_option linter.unusedSimpArgs false
section
namespace Go.Proofs.Ytoekmdcldfmmcaa.F
open Go.RowKit Go.Proofs.YtoekmdcldfmmcaaW.PrintWords Go.Proofs.YtoekmdcldfmmcaaW.PrintLast Go.Proofs.YtoekmdcldfmmcaaW.PrintMore
attribute [local go_sem] Oper.semAt_some Instr.field asAgg
set_option linter.unusedVariables false
set_option linter.unusedSimpArgs false
set_option maxHeartbeats 4000000 in
set_option maxRecDepth 100000 in
theorem search_calls (A0 : Option Addr) (c0 : Nat) (l0 : List S35) (n : Int) (w : World) (hr0 : Kd.C k35 w A0 l0.length l0) (hc0 : l0.length ≤ c0) (hl : l0.length ≤ 64) (R : Nat) (hR : bsR l0 n l0.length 0 l0.length = R) :
    Calls Try.prog 43 #[.slice A0 l0.length c0, .int .u64 n, .func (.func 44) #[] #[]] w fun e w' => e = .returned (.tuple #[.int .i64 (R : Int), .bool (decide (R < l0.length ∧ (rd_T35 l0 (R : Int)).f0 = n))]) ∧ Below w.heap.size w w' := by
  have HR := Aside0.mk hr0
  have HL := Aside0.mk hl
  have HRR := Aside0.mk hR
  clear hr0 hc0 hR
  go_enter Try.func43, Try.ntmps43
  go_wp2
  go_loopg [9, 10] l0.length (fun gg v9 v10 wr => ∃ i j k : Nat, v9 = .int .i64 i ∧ v10 = .int .i64 j ∧ i ≤ j ∧ j ≤ l0.length ∧ j - i ≤ k ∧ j - i ≤ gg ∧ Aside0 (bsR l0 n k i j = R) ∧ Aside0 (Below w.heap.size w wr))
  case atStart => exact ⟨0, l0.length, l0.length, rfl, rfl, Nat.zero_le _, Nat.le_refl _, by omega, by omega, HRR, ⟨Below.refl _ w⟩⟩
  case round =>
    obtain ⟨i, j, k, rfl, rfl, hij, hj, hk, hg, HB, BW⟩ := hrel
    by_cases hlt : i < j
    · have hltz : decide ((i : Int) < (j : Int)) = true := decide_eq_true (by omega)
      obtain ⟨k, rfl⟩ : ∃ q, k = q + 1 := ⟨k - 1, by omega⟩
      have H := HB.out
      simp only [bsR, if_pos hlt] at H
      go_upto_region 5 with (fail)
      have hm : ((i : Int) + (j : Int)) / 2 = (((i + j) / 2 : Nat) : Int) := by omega
      rw [hm]
      have hm1 : i ≤ (i + j) / 2 := by omega
      have hm2 : (i + j) / 2 < j := by omega
      clear hm hltz
      generalize (i + j) / 2 = m at hm1 hm2 H ⊢
      have p1 : (0 ≤ (m : Int)) = True := eq_true (by omega)
      have p2 : ((m : Int) < (l0.length : Int)) = True := eq_true (by omega)
      obtain ⟨ad, hA, y0, y1⟩ := at_T35 (Kd.C_below HR.out BW.out) (m : Int) (by omega) (by omega)
      subst hA
      simp only [Int.toNat_natCast] at y0 y1
      generalize hx0 : (rd_T35 l0 (m : Int)).f0 = x0 at y0 H
      generalize (rd_T35 l0 (m : Int)).f1 = x1 at y1
      clear hx0
      have hl64 := HL.out
      by_cases c : x0 < n
      · rw [if_pos c] at H
        have hcm : cmpI x0 n = -1 := by unfold cmpI; rw [if_pos c]
        have H' := Aside0.mk H
        clear H c
        go_wp2_with (go_at_call 44; refine (find1_calls _ _ _ _).mono ?_; rintro e w' ⟨rfl, hb'⟩; rw [hcm]; have BW' := Aside0.mk (below_then BW.out BW.out.size hb'); clear hb')
        go_roundg (j - (m + 1))
        case rel => exact ⟨m + 1, j, k, by go_num, rfl, by omega, hj, by omega, by omega, H', BW'⟩
        case measure => omega
      · rw [if_neg c] at H
        have hcm : ∃ q, cmpI x0 n = q ∧ decide (q < 0) = false := by
          unfold cmpI; rw [if_neg c]
          split
          · exact ⟨_, rfl, rfl⟩
          · exact ⟨_, rfl, rfl⟩
        obtain ⟨q, hcm, hq⟩ := hcm
        have H' := Aside0.mk H
        clear H c
        go_wp2_with (go_at_call 44; refine (find1_calls _ _ _ _).mono ?_; rintro e w' ⟨rfl, hb'⟩; rw [hcm]; have BW' := Aside0.mk (below_then BW.out BW.out.size hb'); clear hb')
        go_roundg (m - i)
        case rel => exact ⟨i, m, k, rfl, rfl, hm1, by omega, by omega, by omega, H', BW'⟩
        case measure => omega
    · obtain rfl : i = j := by omega
      have H := HB.out
      have e : R = i := by
        cases k with
        | zero => simpa [bsR] using H.symm
        | succ k => simp only [bsR] at H; rw [if_neg (by omega)] at H; exact H.symm
      subst e
      have hltz : decide ((R : Int) < (R : Int)) = false := decide_eq_false (by omega)
      clear H hg hk
      have hl64 := HL.out
      by_cases c : R < l0.length
      · have c1 : decide ((R : Int) < (l0.length : Int)) = true := decide_eq_true (by omega)
        have p1 : (0 ≤ (R : Int)) = True := eq_true (by omega)
        have p2 : ((R : Int) < (l0.length : Int)) = True := eq_true (by omega)
        obtain ⟨ad, hA, y0, y1⟩ := at_T35 (Kd.C_below HR.out BW.out) (R : Int) (by omega) (by omega)
        subst hA
        simp only [Int.toNat_natCast] at y0 y1
        generalize hx0 : (rd_T35 l0 (R : Int)).f0 = x0 at y0
        have HX := Aside0.mk hx0
        clear hx0
        generalize (rd_T35 l0 (R : Int)).f1 = x1 at y1
        have hcm : ∃ q, cmpI x0 n = q ∧ (q == 0) = decide (x0 = n) := by
          unfold cmpI
          by_cases a : x0 < n
          · rw [if_pos a]; exact ⟨_, rfl, (decide_eq_false (by omega)).symm⟩
          · rw [if_neg a]
            by_cases b : n < x0
            · rw [if_pos b]; exact ⟨_, rfl, (decide_eq_false (by omega)).symm⟩
            · rw [if_neg b]; exact ⟨_, rfl, (decide_eq_true (by omega)).symm⟩
        obtain ⟨q, hcm, hq⟩ := hcm
        go_wp2_with (go_at_call 44; refine (find1_calls _ _ _ _).mono ?_; rintro e w' ⟨rfl, hb'⟩; rw [hcm]; have BW' := Aside0.mk (below_then BW.out BW.out.size hb'); clear hb')
        go_ret2
        exact ⟨by rw [HX.out, show decide (R < l0.length ∧ x0 = n) = decide (x0 = n) by simp [c]]; rfl, BW'.out⟩
      · have c1 : decide ((R : Int) < (l0.length : Int)) = false := decide_eq_false (by omega)
        have HX : Aside0 (decide (R < l0.length ∧ (rd_T35 l0 (R : Int)).f0 = n) = false) := ⟨by simp [c]⟩
        go_wp2
        go_ret2
        exact ⟨by rw [HX.out]; first | rfl | simp, BW.out⟩
end Go.Proofs.Ytoekmdcldfmmcaa.F
end
section
namespace Go.Proofs.Ytoekmdcldfmmcaa.F
open Go.RowKit Go.Proofs.YtoekmdcldfmmcaaW.PrintWords Go.Proofs.YtoekmdcldfmmcaaW.PrintLast Go.Proofs.YtoekmdcldfmmcaaW.PrintMore
attribute [local go_sem] Oper.semAt_some Instr.field asAgg
set_option linter.unusedVariables false
set_option linter.unusedSimpArgs false
set_option maxHeartbeats 4000000 in
set_option maxRecDepth 100000 in
theorem ring_Find.calls (a0_0 : Int) (a0_1 : Int) (A0_2 : Option Addr) (c0_2 : Nat) (l0_2 : List (S35)) (a1 : Int) (r1 : Int) (r2 : Int) (w : World) (hr0_2 : Kd.C k35 w A0_2 l0_2.length l0_2) (hc0_2 : l0_2.length ≤ c0_2) (h : ring_Find.f a0_0 a0_1 l0_2 a1 = some (r1, r2)) :
    Calls Try.prog 27 #[.agg #[.int .i64 a0_0, .int .u64 a0_1, .slice A0_2 l0_2.length c0_2], .int .u64 a1] w fun e w' => e = .returned (.tuple #[.int .i64 r1, .int .i64 r2]) ∧ Below w.heap.size w w' := by
  have hu25 := Try.underlying25
  have hu23 := Try.underlying23
  unfold ring_Find.f at h
  obtain ⟨⟨e, e2⟩, he, h⟩ := Option.bind_eq_some_iff.mp h
  have HE := Aside0.mk he
  have HR := Aside0.mk hr0_2
  have HC := Aside0.mk hc0_2
  clear he hr0_2
  dsimp only at h
  by_cases c : e = 0
  · subst c
    rw [if_pos rfl] at h
    by_cases c4 : l0_2.length ≤ 64
    case neg => rw [if_neg c4] at h; cases h
    rw [if_pos c4] at h
    have HL := Aside0.mk c4
    clear c4
    obtain ⟨R, hR⟩ : ∃ R, bsR l0_2 a1 l0_2.length 0 l0_2.length = R := ⟨_, rfl⟩
    rw [hR] at h
    have HQ := Aside0.mk hR
    clear hR
    by_cases c5 : R < l0_2.length ∧ (rd_T35 l0_2 (R : Int)).f0 = a1
    · rw [if_pos c5] at h
      simp only [Option.some.injEq, Prod.mk.injEq] at h
      obtain ⟨rfl, rfl⟩ := h
      have hd : decide (R < l0_2.length ∧ (rd_T35 l0_2 (R : Int)).f0 = a1) = true := decide_eq_true c5
      clear c5
      go_enter Try.func27, Try.ntmps27
      go_wp2_with (first | (go_at_call 23; refine (ring_Check.calls 4096 a0_0 a0_1 A0_2 c0_2 l0_2 0 e2 _ ?hr HC.out HE.out).mono ?_; (case hr => exact Kd.C_below HR.out ((Below.refl _ w).alloc (Nat.le_refl _) _)); rintro e w1 ⟨rfl, hbw⟩; have HB := Aside0.mk (boxed_below hbw); have HK := Aside0.mk (blk_below (blk_new w _) hbw); obtain ⟨q0, q1, q2, q3, q4, q5⟩ := tri_cells HK.out; have ql := blk_lt HK.out; clear hbw) | (go_at_call 43; refine (search_calls A0_2 c0_2 l0_2 a1 _ (Kd.C_below HR.out HB.out) HC.out HL.out R HQ.out).mono ?_; rintro e wi ⟨rfl, hb⟩; rw [hd]; have HB1 := Aside0.mk (below_then HB.out HB.out.size hb); clear hb))
      go_ret2
      exact ⟨rfl, HB1.out⟩
    · rw [if_neg c5] at h
      simp only [Option.some.injEq, Prod.mk.injEq] at h
      obtain ⟨rfl, rfl⟩ := h
      have hd : decide (R < l0_2.length ∧ (rd_T35 l0_2 (R : Int)).f0 = a1) = false := decide_eq_false c5
      clear c5
      go_enter Try.func27, Try.ntmps27
      go_wp2_with (first | (go_at_call 23; refine (ring_Check.calls 4096 a0_0 a0_1 A0_2 c0_2 l0_2 0 e2 _ ?hr HC.out HE.out).mono ?_; (case hr => exact Kd.C_below HR.out ((Below.refl _ w).alloc (Nat.le_refl _) _)); rintro e w1 ⟨rfl, hbw⟩; have HB := Aside0.mk (boxed_below hbw); have HK := Aside0.mk (blk_below (blk_new w _) hbw); obtain ⟨q0, q1, q2, q3, q4, q5⟩ := tri_cells HK.out; have ql := blk_lt HK.out; clear hbw) | (go_at_call 43; refine (search_calls A0_2 c0_2 l0_2 a1 _ (Kd.C_below HR.out HB.out) HC.out HL.out R HQ.out).mono ?_; rintro e wi ⟨rfl, hb⟩; rw [hd]; have HB1 := Aside0.mk (below_then HB.out HB.out.size hb); clear hb))
      go_ret2
      exact ⟨rfl, HB1.out⟩
  · rw [if_neg c] at h
    have cb : (e != 0) = true := bne_iff_ne.mpr c
    clear c
    simp only [Option.some.injEq, Prod.mk.injEq] at h
    obtain ⟨rfl, rfl⟩ := h
    go_enter Try.func27, Try.ntmps27
    go_wp2_with (go_at_call 23; refine (ring_Check.calls 4096 a0_0 a0_1 A0_2 c0_2 l0_2 e e2 _ ?hr HC.out HE.out).mono ?_; (case hr => exact Kd.C_below HR.out ((Below.refl _ w).alloc (Nat.le_refl _) _)); rintro e w1 ⟨rfl, hbw⟩; have HB := Aside0.mk (boxed_below hbw); have HK := Aside0.mk (blk_below (blk_new w _) hbw); obtain ⟨q0, q1, q2, q3, q4, q5⟩ := tri_cells HK.out; have ql := blk_lt HK.out; clear hbw)
    go_ret2
    exact ⟨rfl, HB.out⟩
end Go.Proofs.Ytoekmdcldfmmcaa.F
end
section
namespace Go.Proofs.Ytoekmdcldfmmcaa.F
open Go.RowKit Go.Proofs.YtoekmdcldfmmcaaW.PrintWords Go.Proofs.YtoekmdcldfmmcaaW.PrintLast Go.Proofs.YtoekmdcldfmmcaaW.PrintMore
set_option linter.unusedVariables false
set_option linter.unusedSimpArgs false
set_option maxHeartbeats 1000000 in
set_option maxRecDepth 100000 in
theorem grow_nil (n : Nat) (hn : n ≤ 128) (w : World) : Calls Try.prog 47 #[.slice none 0 0, .int .i64 n] w fun e w' => ∃ v : Value, e = .returned v ∧ Kd.R k35 35 w' w.heap.size (fun _ => True) v [] ∧ Below w.heap.size w w' := by
  have hu23 := Try.underlying23
  have d0 : decide ((n : Int) < 0) = false := decide_eq_false (by omega)
  by_cases c : 0 < n
  · have d1 : decide (0 < (n : Int)) = true := decide_eq_true (by omega)
    have d1' : decide (0 < n) = true := decide_eq_true c
    go_enter Try.func47, Try.ntmps47
    go_wp2_with ((with_reducible refine gate_builtin (b := .append) (xs := #[.tmp 20, .tmp 21]) rfl ?_); refine Kd.R_append_zeros k35 (w0 := w) w.heap.size rfl _ _ 23 3 35 (.agg #[.int .u64 0, .int .i64 0]) 16 rfl Try.underlying23 Try.underlying3 info35 rfl (by decide) (by decide) (.slice none 0 0) [] z35 n (fun _ => True) rfl rfl ?hz (fun _ _ => trivial) (Kd.R_nil _ _ _ _ _) (by omega) (Below.refl _ w) (Nat.le_refl _) (by simp; omega) ?_; (case hz => exact k35_mkM _ _ _ z35); intro v1 w1 hR hB hg hat; obtain ⟨A9, c9, e9⟩ := Kd.R_slice hR; subst e9; have HR := Aside0.mk hR; have HB := Aside0.mk hB; clear hR hB hg hat)
    go_ret
    have h := Kd.R_take HR.out (Nat.zero_le _)
    exact ⟨_, rfl, by simpa using h, HB.out⟩
  · obtain rfl : n = 0 := by omega
    go_enter Try.func47, Try.ntmps47
    go_wp2
    go_ret
    exact ⟨_, rfl, Kd.R_nil _ _ _ _ _, Below.refl _ w⟩
end Go.Proofs.Ytoekmdcldfmmcaa.F
end
section
namespace Go.Proofs.Ytoekmdcldfmmcaa.F
open Go.RowKit Go.Proofs.YtoekmdcldfmmcaaW.PrintWords Go.Proofs.YtoekmdcldfmmcaaW.PrintLast Go.Proofs.YtoekmdcldfmmcaaW.PrintMore
set_option linter.unusedVariables false
set_option linter.unusedSimpArgs false
/-- A slice of two slices. -/
def Pair (w : World) (g : Nat) (A1 A2 : Option Addr) (c1 c2 : Nat) (l1 l2 : List S35) : Prop :=
  w.heap[g]? = some (.cells #[.slice A1 l1.length c1, .slice A2 l2.length c2] 23 (0, 0)) ∧ Kd.C k35 w A1 l1.length l1 ∧ Kd.C k35 w A2 l2.length l2
end Go.Proofs.Ytoekmdcldfmmcaa.F
end
section
namespace Go.Proofs.Ytoekmdcldfmmcaa.F
open Go.RowKit Go.Proofs.YtoekmdcldfmmcaaW.PrintWords Go.Proofs.YtoekmdcldfmmcaaW.PrintLast Go.Proofs.YtoekmdcldfmmcaaW.PrintMore
set_option linter.unusedVariables false
set_option linter.unusedSimpArgs false
theorem Pair.below {w w' : World} {g : Nat} {A1 A2 : Option Addr} {c1 c2 : Nat} {l1 l2 : List S35} (h : Pair w g A1 A2 c1 c2 l1 l2) (hb : Below w.heap.size w w') : Pair w' g A1 A2 c1 c2 l1 l2 :=
  ⟨blk_below h.1 hb, Kd.C_below h.2.1 hb, Kd.C_below h.2.2 hb⟩
end Go.Proofs.Ytoekmdcldfmmcaa.F
end
section
namespace Go.Proofs.Ytoekmdcldfmmcaa.F
open Go.RowKit Go.Proofs.YtoekmdcldfmmcaaW.PrintWords Go.Proofs.YtoekmdcldfmmcaaW.PrintLast Go.Proofs.YtoekmdcldfmmcaaW.PrintMore
set_option linter.unusedVariables false
set_option linter.unusedSimpArgs false
theorem wrap_two {a b : Nat} (h1 : a ≤ 64) (h2 : b ≤ 64) : wrap64 ((a : Int) + (b : Int)) = ((a + b : Nat) : Int) := by unfold wrap64; omega
end Go.Proofs.Ytoekmdcldfmmcaa.F
end
section
namespace Go.Proofs.Ytoekmdcldfmmcaa.F
open Go.RowKit Go.Proofs.YtoekmdcldfmmcaaW.PrintWords Go.Proofs.YtoekmdcldfmmcaaW.PrintLast Go.Proofs.YtoekmdcldfmmcaaW.PrintMore
set_option linter.unusedVariables false
set_option linter.unusedSimpArgs false
set_option maxHeartbeats 4000000 in
set_option maxRecDepth 100000 in
theorem concat_calls (g : Nat) (A1 A2 : Option Addr) (c1 c2 : Nat) (l1 l2 : List S35) (w : World) (hp : Pair w g A1 A2 c1 c2 l1 l2) (h1 : l1.length ≤ 64) (h2 : l2.length ≤ 64) :
    Calls Try.prog 39 #[.slice (some ⟨g, 0, none⟩) 2 2] w fun e w' => ∃ v : Value, e = .returned v ∧ Kd.R k35 35 w' w.heap.size (fun _ => True) v (l1 ++ l2) ∧ Below w.heap.size w w' := by
  have hu76 := Try.underlying76
  have HP := Aside0.mk hp
  have H1 := Aside0.mk h1
  have H2 := Aside0.mk h2
  clear hp h1 h2
  go_enter Try.func39, Try.ntmps39
  go_wp2
  go_loopg [3, 11] 2 (fun gg v3 v11 wr => ∃ (i s : Nat), v3 = .int .i64 s ∧ v11 = .int .i64 i ∧ i ≤ 2 ∧ 2 - i ≤ gg ∧ Aside0 (s = (if 0 < i then l1.length else 0) + (if 1 < i then l2.length else 0)) ∧ Aside0 (Below w.heap.size w wr))
  case atStart => exact ⟨0, 0, rfl, rfl, by omega, by omega, ⟨rfl⟩, ⟨Below.refl _ w⟩⟩
  case round =>
    obtain ⟨i, s, rfl, rfl, hi, hg, HS, HB⟩ := hrel
    have hq := con_cells (HP.out.below HB.out).1
    obtain ⟨q0, q1, q2, q3⟩ := hq
    have hl1 := H1.out
    have hl2 := H2.out
    by_cases i0 : i = 0
    · subst i0
      obtain rfl : s = 0 := HS.out
      have d0 : decide ((l1.length : Int) < 0) = false := decide_eq_false (by omega)
      go_wp2
      go_roundg 1
      case rel => exact ⟨1, l1.length, by go_num, by go_num, by omega, by omega, ⟨by simp⟩, HB⟩
      case measure => omega
    · by_cases i1 : i = 1
      · subst i1
        obtain rfl : s = l1.length := by have := HS.out; simpa using this
        have hw : wrap64 ((l1.length : Int) + (l2.length : Int)) = ((l1.length + l2.length : Nat) : Int) := wrap_two hl1 hl2
        have d0 : decide (((l1.length + l2.length : Nat) : Int) < 0) = false := decide_eq_false (by omega)
        go_wp2
        go_roundg 0
        case rel => exact ⟨2, l1.length + l2.length, by first | rfl | exact congrArg (Value.int .i64) hw, by go_num, by omega, by omega, ⟨by simp⟩, HB⟩
        case measure => omega
      · obtain rfl : i = 2 := by omega
        have hs : s ≤ 128 := by have := HS.out; simp at this; omega
        have HS0 := Aside0.mk hs
        have d0 : decide ((s : Int) < 0) = false := decide_eq_false (by omega)
        clear hl1 hl2 HS q0 q1 q2 q3 hs
        go_wp2_with (go_at_call 47; refine (grow_nil s HS0.out _).mono ?_; rintro e w1 ⟨v, rfl, hR, hb⟩; have HR := Aside0.mk (Kd.R_lower (Kd.R_mono hR (ok' := fun _ => True) (fun _ _ => trivial)) HB.out.size); have HB1 := Aside0.mk (below_then HB.out HB.out.size hb); clear hR hb HB)
        go_loopg [6, 27] 2 (fun gg v6 v27 wr => ∃ (i : Nat) (v9 : Value) (l : List S35), v6 = v9 ∧ v27 = .int .i64 i ∧ i ≤ 2 ∧ 2 - i ≤ gg ∧ Aside0 (l = (if 0 < i then l1 else []) ++ (if 1 < i then l2 else [])) ∧ Aside0 (Kd.R k35 35 wr w.heap.size (fun _ => True) v9 l) ∧ Aside0 (Below w.heap.size w wr))
        case atStart => exact ⟨0, v, [], rfl, rfl, by omega, by omega, ⟨rfl⟩, HR, HB1⟩
        case round =>
          clear HR HB1 HS0 d0
          obtain ⟨i, v8, l, rfl, rfl, hi, hg, HL, HR2, HB2⟩ := hrel
          have hq := con_cells (HP.out.below HB2.out).1
          obtain ⟨q0, q1, q2, q3⟩ := hq
          have HX := Aside0.mk (show l.length ≤ 128 by have h1 := H1.out; have h2 := H2.out; rw [HL.out, List.length_append]; split <;> split <;> simp <;> omega)
          by_cases i0 : i = 0
          · subst i0
            go_wp2_with ((with_reducible refine gate_builtin (b := .append) (xs := #[.tmp 31, .tmp 32]) rfl ?_); refine Kd.R_append_rows k35 (Rr := k35.K wr) (w0 := w) w.heap.size (by rfl) (.tmp 31) (.tmp 32) 23 35 (.agg #[.int .u64 0, .int .i64 0]) 16 rfl Try.underlying23 info35 rfl (by decide) (by omega) _ l l1 _ _ _ (fun _ => True) (fun _ => False) rfl rfl ?aO ?aR ?aM (fun _ h => h.elim) (fun _ _ => trivial) ?aB ?aS ?aL ?_; (case aR => exact (HP.out.below HB2.out).2.1); (case aM => exact fun x cs h => by rw [k35_open h]; exact k35_mkM _ _ _ _); (case aB => exact HB2.out); (case aO => exact HR2.out); (case aS => exact HB2.out.size); (case aL => have := H1.out; have := H2.out; have := HX.out; simp; omega); intro v2 w2 ho hb hg hat; have HO2 := Aside0.mk ho; have HB3 := Aside0.mk hb; clear ho hb hg hat HR2 HB2 q0 q1 q2 q3)
            go_roundg 1
            case rel => exact ⟨1, v2, l ++ l1, rfl, by go_num, by omega, by omega, ⟨by rw [HL.out]; simp⟩, HO2, HB3⟩
            case measure => omega
          · by_cases i1 : i = 1
            · subst i1
              go_wp2_with ((with_reducible refine gate_builtin (b := .append) (xs := #[.tmp 31, .tmp 32]) rfl ?_); refine Kd.R_append_rows k35 (Rr := k35.K wr) (w0 := w) w.heap.size (by rfl) (.tmp 31) (.tmp 32) 23 35 (.agg #[.int .u64 0, .int .i64 0]) 16 rfl Try.underlying23 info35 rfl (by decide) (by omega) _ l l2 _ _ _ (fun _ => True) (fun _ => False) rfl rfl ?aO ?aR ?aM (fun _ h => h.elim) (fun _ _ => trivial) ?aB ?aS ?aL ?_; (case aR => exact (HP.out.below HB2.out).2.2); (case aM => exact fun x cs h => by rw [k35_open h]; exact k35_mkM _ _ _ _); (case aB => exact HB2.out); (case aO => exact HR2.out); (case aS => exact HB2.out.size); (case aL => have := H1.out; have := H2.out; have := HX.out; simp; omega); intro v2 w2 ho hb hg hat; have HO2 := Aside0.mk ho; have HB3 := Aside0.mk hb; clear ho hb hg hat HR2 HB2 q0 q1 q2 q3)
              go_roundg 0
              case rel => exact ⟨2, v2, l ++ l2, rfl, by go_num, by omega, by omega, ⟨by rw [HL.out]; simp⟩, HO2, HB3⟩
              case measure => omega
            · obtain rfl : i = 2 := by omega
              obtain rfl : l = l1 ++ l2 := by have := HL.out; simpa using this
              clear hi hg i0 i1
              go_wp2
              go_ret
              exact ⟨_, rfl, HR2.out, HB2.out⟩
end Go.Proofs.Ytoekmdcldfmmcaa.F
end
section
namespace Go.Proofs.Ytoekmdcldfmmcaa.F
open Go.RowKit Go.Proofs.YtoekmdcldfmmcaaW.PrintWords Go.Proofs.YtoekmdcldfmmcaaW.PrintLast Go.Proofs.YtoekmdcldfmmcaaW.PrintMore
attribute [local go_sem] Oper.semAt_some Instr.field asAgg
set_option linter.unusedVariables false
set_option linter.unusedSimpArgs false
theorem wrap_one {a : Nat} (h : a ≤ 64) : wrap64 ((a : Int) + 1) = ((a + 1 : Nat) : Int) := by unfold wrap64; omega
end Go.Proofs.Ytoekmdcldfmmcaa.F
end
section
namespace Go.Proofs.Ytoekmdcldfmmcaa.F
open Go.RowKit Go.Proofs.YtoekmdcldfmmcaaW.PrintWords Go.Proofs.YtoekmdcldfmmcaaW.PrintLast Go.Proofs.YtoekmdcldfmmcaaW.PrintMore
attribute [local go_sem] Oper.semAt_some Instr.field asAgg
set_option linter.unusedVariables false
set_option linter.unusedSimpArgs false
theorem concat_cut (W : World) (ad ad2 : Addr) (c i : Nat) (l : List S35) (hC : Kd.C k35 W (some ad) l.length l) (hc : l.length ≤ c) (hi : i < l.length) (hl : l.length ≤ 64) (he : (if c = i + 1 then some ad else (some ad : Option Addr).map (·.add ((i + 1) * 2))) = some ad2) :
    Calls Try.prog 39 #[.slice (some ⟨W.heap.size, 0, none⟩) 2 2] (W.alloc (.cells #[.slice (some ad) i c, .slice (some ad2) (l.length - (i + 1)) (c - (i + 1))] 23)).drew fun e w' => ∃ v : Value, e = .returned v ∧ Kd.R k35 35 w' W.heap.size (fun k => W.heap.size ≤ k) v (l.take i ++ l.drop (i + 1)) ∧ Below W.heap.size W w' := by
  have e1 : (l.take i).length = i := by rw [List.length_take]; omega
  have e2 : (l.drop (i + 1)).length = l.length - (i + 1) := List.length_drop
  have h1 := Kd.C_take hC (show i ≤ l.length by omega)
  have h2 := Kd.C_drop hC (show i + 1 ≤ l.length by omega) hc
  rw [show k35.sz = 2 from rfl, he] at h2
  have hp : Pair (W.alloc (.cells #[.slice (some ad) i c, .slice (some ad2) (l.length - (i + 1)) (c - (i + 1))] 23)).drew W.heap.size (some ad) (some ad2) c (c - (i + 1)) (l.take i) (l.drop (i + 1)) := by
    refine ⟨?_, Kd.C_drew (Kd.C_alloc h1 _), Kd.C_drew (Kd.C_alloc h2 _)⟩
    rw [e1, e2]
    exact blk_drew (blk_new W _)
  refine (concat_calls _ _ _ _ _ _ _ _ hp (by omega) (by omega)).mono ?_
  rintro e w' ⟨v, rfl, hR, hb⟩
  have hb' : Below W.heap.size W w' := below_then (below_drew (below_alloc (Below.refl W.heap.size W) _)) (by simp) hb
  exact ⟨v, rfl, Kd.R_mono (Kd.R_lower (Kd.R_bound hR) (by simp)) (fun k hk => by have := hk.2.1; simp at this; omega), hb'⟩
end Go.Proofs.Ytoekmdcldfmmcaa.F
end
section
namespace Go.Proofs.Ytoekmdcldfmmcaa.F
open Go.RowKit Go.Proofs.YtoekmdcldfmmcaaW.PrintWords Go.Proofs.YtoekmdcldfmmcaaW.PrintLast Go.Proofs.YtoekmdcldfmmcaaW.PrintMore
attribute [local go_sem] Oper.semAt_some Instr.field asAgg
set_option linter.unusedVariables false
set_option linter.unusedSimpArgs false
theorem slice_any {w : World} {base : Nat} {ok : Nat → Prop} {v : Value} {l : List S35} (h : Kd.R k35 35 w base ok v l) : ∃ A n c, v = .slice A n c := by
  obtain ⟨A, c, e⟩ := Kd.R_slice h
  exact ⟨A, _, c, e⟩
end Go.Proofs.Ytoekmdcldfmmcaa.F
end
section
namespace Go.Proofs.Ytoekmdcldfmmcaa.F
open Go.RowKit Go.Proofs.YtoekmdcldfmmcaaW.PrintWords Go.Proofs.YtoekmdcldfmmcaaW.PrintLast Go.Proofs.YtoekmdcldfmmcaaW.PrintMore
attribute [local go_sem] Oper.semAt_some Instr.field asAgg
set_option linter.unusedVariables false
set_option linter.unusedSimpArgs false
/-- Three blocks and a fourth. -/
def Qd (w w' : World) (o o' o'' : Obj) (g : Nat) (o3 : Obj) : Prop := Tri w w' o o' o'' ∧ w'.heap[g]? = some o3 ∧ w.heap.size + 2 < g
end Go.Proofs.Ytoekmdcldfmmcaa.F
end
section
namespace Go.Proofs.Ytoekmdcldfmmcaa.F
open Go.RowKit Go.Proofs.YtoekmdcldfmmcaaW.PrintWords Go.Proofs.YtoekmdcldfmmcaaW.PrintLast Go.Proofs.YtoekmdcldfmmcaaW.PrintMore
attribute [local go_sem] Oper.semAt_some Instr.field asAgg
set_option linter.unusedVariables false
set_option linter.unusedSimpArgs false
theorem Qd.below {w w1 w2 : World} {o o' o'' o3 : Obj} {g : Nat} (h : Qd w w1 o o' o'' g o3) (hb : Below w1.heap.size w1 w2) : Qd w w2 o o' o'' g o3 := ⟨h.1.below hb, blk_below h.2.1 hb, h.2.2⟩
end Go.Proofs.Ytoekmdcldfmmcaa.F
end
section
namespace Go.Proofs.Ytoekmdcldfmmcaa.F
open Go.RowKit Go.Proofs.YtoekmdcldfmmcaaW.PrintWords Go.Proofs.YtoekmdcldfmmcaaW.PrintLast Go.Proofs.YtoekmdcldfmmcaaW.PrintMore
attribute [local go_sem] Oper.semAt_some Instr.field asAgg
set_option linter.unusedVariables false
set_option linter.unusedSimpArgs false
def DropFin (w W : World) (a b x y : Int) (v : Value) (l : List S35) : Prop :=
  W.heap[w.heap.size + 1]? = some (.cells #[.int .i64 a, .int .u64 b, v] 25 (0, 0)) ∧ W.heap[w.heap.size + 2]? = some (.cells #[.int .u64 x, .int .i64 y] 35 (0, 0)) ∧ Kd.R k35 35 W w.heap.size (fun _ => True) v l ∧ Below w.heap.size w W
end Go.Proofs.Ytoekmdcldfmmcaa.F
end
section
namespace Go.Proofs.Ytoekmdcldfmmcaa.F
open Go.RowKit Go.Proofs.YtoekmdcldfmmcaaW.PrintWords Go.Proofs.YtoekmdcldfmmcaaW.PrintLast Go.Proofs.YtoekmdcldfmmcaaW.PrintMore
attribute [local go_sem] Oper.semAt_some Instr.field asAgg
set_option linter.unusedVariables false
set_option linter.unusedSimpArgs false
theorem DropFin.p1 {w W : World} {a b x y : Int} {v : Value} {l : List S35} (h : DropFin w W a b x y v l) : W.heap[w.heap.size + 1]? = some (.cells #[.int .i64 a, .int .u64 b, v] 25 (0, 0)) := h.1
end Go.Proofs.Ytoekmdcldfmmcaa.F
end
section
namespace Go.Proofs.Ytoekmdcldfmmcaa.F
open Go.RowKit Go.Proofs.YtoekmdcldfmmcaaW.PrintWords Go.Proofs.YtoekmdcldfmmcaaW.PrintLast Go.Proofs.YtoekmdcldfmmcaaW.PrintMore
attribute [local go_sem] Oper.semAt_some Instr.field asAgg
set_option linter.unusedVariables false
set_option linter.unusedSimpArgs false
theorem DropFin.p2 {w W : World} {a b x y : Int} {v : Value} {l : List S35} (h : DropFin w W a b x y v l) : W.heap[w.heap.size + 2]? = some (.cells #[.int .u64 x, .int .i64 y] 35 (0, 0)) := h.2.1
end Go.Proofs.Ytoekmdcldfmmcaa.F
end
section
namespace Go.Proofs.Ytoekmdcldfmmcaa.F
open Go.RowKit Go.Proofs.YtoekmdcldfmmcaaW.PrintWords Go.Proofs.YtoekmdcldfmmcaaW.PrintLast Go.Proofs.YtoekmdcldfmmcaaW.PrintMore
attribute [local go_sem] Oper.semAt_some Instr.field asAgg
set_option linter.unusedVariables false
set_option linter.unusedSimpArgs false
theorem DropFin.p3 {w W : World} {a b x y : Int} {v : Value} {l : List S35} (h : DropFin w W a b x y v l) : Kd.R k35 35 W w.heap.size (fun _ => True) v l := h.2.2.1
end Go.Proofs.Ytoekmdcldfmmcaa.F
end
section
namespace Go.Proofs.Ytoekmdcldfmmcaa.F
open Go.RowKit Go.Proofs.YtoekmdcldfmmcaaW.PrintWords Go.Proofs.YtoekmdcldfmmcaaW.PrintLast Go.Proofs.YtoekmdcldfmmcaaW.PrintMore
attribute [local go_sem] Oper.semAt_some Instr.field asAgg
set_option linter.unusedVariables false
set_option linter.unusedSimpArgs false
theorem DropFin.p4 {w W : World} {a b x y : Int} {v : Value} {l : List S35} (h : DropFin w W a b x y v l) : Below w.heap.size w W := h.2.2.2
end Go.Proofs.Ytoekmdcldfmmcaa.F
end
section
namespace Go.Proofs.Ytoekmdcldfmmcaa.F
open Go.RowKit Go.Proofs.YtoekmdcldfmmcaaW.PrintWords Go.Proofs.YtoekmdcldfmmcaaW.PrintLast Go.Proofs.YtoekmdcldfmmcaaW.PrintMore
attribute [local go_sem] Oper.semAt_some Instr.field asAgg
set_option linter.unusedVariables false
set_option linter.unusedSimpArgs false
theorem drop_finA {w w5 : World} {o : Obj} (h : Tri w w5 o (.cells #[.int .i64 0, .int .u64 0, .slice none 0 0] 25) (.cells #[.int .u64 0, .int .i64 0] 35)) (a b x y : Int) (v : Value) (n : Nat) (hn : w.heap.size + 2 < n) (l : List S35) (hR : Kd.R k35 35 w5 n (fun k => n ≤ k) v l) :
    DropFin w (((((((w5.setCell ⟨w.heap.size, 2, none⟩ v).setCell ⟨w.heap.size + 1, 0, none⟩ (.int .i64 a)).setCell ⟨w.heap.size + 1, 1, none⟩ (.int .u64 b)).setCell ⟨w.heap.size + 1, 2, none⟩ v).setCell ⟨w.heap.size + 2, 0, none⟩ (.int .u64 x)).setCell ⟨w.heap.size + 2, 1, none⟩ (.int .i64 y)).drew) a b x y v l := by
  have f0 : ∀ k, n ≤ k → k ≠ w.heap.size := fun k hk => by omega
  have f1 : ∀ k, n ≤ k → k ≠ w.heap.size + 1 := fun k hk => by omega
  have f2 : ∀ k, n ≤ k → k ≠ w.heap.size + 2 := fun k hk => by omega
  refine ⟨blk_drew (blk_far (blk_far (blk_put (blk_put (blk_put (blk_far (p := ⟨w.heap.size, 2, none⟩) h.2.2.1 (show w.heap.size + 1 ≠ w.heap.size by omega) _) 0 _ rfl) 1 _ rfl) 2 _ rfl) (show w.heap.size + 1 ≠ w.heap.size + 2 by omega) _) (show w.heap.size + 1 ≠ w.heap.size + 2 by omega) _), blk_drew (blk_put (blk_put (blk_far (blk_far (blk_far (blk_far (p := ⟨w.heap.size, 2, none⟩) h.2.2.2 (show w.heap.size + 2 ≠ w.heap.size by omega) _) (show w.heap.size + 2 ≠ w.heap.size + 1 by omega) _) (show w.heap.size + 2 ≠ w.heap.size + 1 by omega) _) (show w.heap.size + 2 ≠ w.heap.size + 1 by omega) _) 0 _ rfl) 1 _ rfl), ?_, ?_⟩
  · refine Kd.R_mono (ok := fun k => n ≤ k) (Kd.R_lower (base := n) ?_ (by omega)) (fun _ _ => trivial)
    refine Kd.R_drew ?_
    refine Kd.R_far (p := ⟨w.heap.size + 2, 1, none⟩) ?_ f2 _
    refine Kd.R_far (p := ⟨w.heap.size + 2, 0, none⟩) ?_ f2 _
    refine Kd.R_far (p := ⟨w.heap.size + 1, 2, none⟩) ?_ f1 _
    refine Kd.R_far (p := ⟨w.heap.size + 1, 1, none⟩) ?_ f1 _
    refine Kd.R_far (p := ⟨w.heap.size + 1, 0, none⟩) ?_ f1 _
    exact Kd.R_far (p := ⟨w.heap.size, 2, none⟩) hR f0 _
  · refine below_drew ?_
    refine Below.setCell (p := ⟨w.heap.size + 2, 1, none⟩) ?_ (show w.heap.size ≤ w.heap.size + 2 by omega) _
    refine Below.setCell (p := ⟨w.heap.size + 2, 0, none⟩) ?_ (show w.heap.size ≤ w.heap.size + 2 by omega) _
    refine Below.setCell (p := ⟨w.heap.size + 1, 2, none⟩) ?_ (show w.heap.size ≤ w.heap.size + 1 by omega) _
    refine Below.setCell (p := ⟨w.heap.size + 1, 1, none⟩) ?_ (show w.heap.size ≤ w.heap.size + 1 by omega) _
    refine Below.setCell (p := ⟨w.heap.size + 1, 0, none⟩) ?_ (show w.heap.size ≤ w.heap.size + 1 by omega) _
    exact Below.setCell (p := ⟨w.heap.size, 2, none⟩) h.1 (Nat.le_refl _) _
end Go.Proofs.Ytoekmdcldfmmcaa.F
end
section
namespace Go.Proofs.Ytoekmdcldfmmcaa.F
open Go.RowKit Go.Proofs.YtoekmdcldfmmcaaW.PrintWords Go.Proofs.YtoekmdcldfmmcaaW.PrintLast Go.Proofs.YtoekmdcldfmmcaaW.PrintMore
attribute [local go_sem] Oper.semAt_some Instr.field asAgg
set_option linter.unusedVariables false
set_option linter.unusedSimpArgs false
theorem drop_finB {w w5 : World} {o : Obj} (h : Tri w w5 o (.cells #[.int .i64 0, .int .u64 0, .slice none 0 0] 25) (.cells #[.int .u64 0, .int .i64 0] 35)) (a b x y : Int) (v : Value) (n : Nat) (hn : w.heap.size + 2 < n) (l : List S35) (hR : Kd.R k35 35 w5 n (fun k => n ≤ k) v l) :
    DropFin w (((((((w5.setCell ⟨w.heap.size, 2, none⟩ v).setCell ⟨w.heap.size + 2, 0, none⟩ (.int .u64 x)).setCell ⟨w.heap.size + 2, 1, none⟩ (.int .i64 y)).setCell ⟨w.heap.size + 1, 0, none⟩ (.int .i64 a)).setCell ⟨w.heap.size + 1, 1, none⟩ (.int .u64 b)).setCell ⟨w.heap.size + 1, 2, none⟩ v).drew) a b x y v l := by
  have f0 : ∀ k, n ≤ k → k ≠ w.heap.size := fun k hk => by omega
  have f1 : ∀ k, n ≤ k → k ≠ w.heap.size + 1 := fun k hk => by omega
  have f2 : ∀ k, n ≤ k → k ≠ w.heap.size + 2 := fun k hk => by omega
  refine ⟨blk_drew (blk_put (blk_put (blk_put (blk_far (blk_far (blk_far (p := ⟨w.heap.size, 2, none⟩) h.2.2.1 (show w.heap.size + 1 ≠ w.heap.size by omega) _) (show w.heap.size + 1 ≠ w.heap.size + 2 by omega) _) (show w.heap.size + 1 ≠ w.heap.size + 2 by omega) _) 0 _ rfl) 1 _ rfl) 2 _ rfl), blk_drew (blk_far (blk_far (blk_far (blk_put (blk_put (blk_far (p := ⟨w.heap.size, 2, none⟩) h.2.2.2 (show w.heap.size + 2 ≠ w.heap.size by omega) _) 0 _ rfl) 1 _ rfl) (show w.heap.size + 2 ≠ w.heap.size + 1 by omega) _) (show w.heap.size + 2 ≠ w.heap.size + 1 by omega) _) (show w.heap.size + 2 ≠ w.heap.size + 1 by omega) _), ?_, ?_⟩
  · refine Kd.R_mono (ok := fun k => n ≤ k) (Kd.R_lower (base := n) ?_ (by omega)) (fun _ _ => trivial)
    refine Kd.R_drew ?_
    refine Kd.R_far (p := ⟨w.heap.size + 1, 2, none⟩) ?_ f1 _
    refine Kd.R_far (p := ⟨w.heap.size + 1, 1, none⟩) ?_ f1 _
    refine Kd.R_far (p := ⟨w.heap.size + 1, 0, none⟩) ?_ f1 _
    refine Kd.R_far (p := ⟨w.heap.size + 2, 1, none⟩) ?_ f2 _
    refine Kd.R_far (p := ⟨w.heap.size + 2, 0, none⟩) ?_ f2 _
    exact Kd.R_far (p := ⟨w.heap.size, 2, none⟩) hR f0 _
  · refine below_drew ?_
    refine Below.setCell (p := ⟨w.heap.size + 1, 2, none⟩) ?_ (show w.heap.size ≤ w.heap.size + 1 by omega) _
    refine Below.setCell (p := ⟨w.heap.size + 1, 1, none⟩) ?_ (show w.heap.size ≤ w.heap.size + 1 by omega) _
    refine Below.setCell (p := ⟨w.heap.size + 1, 0, none⟩) ?_ (show w.heap.size ≤ w.heap.size + 1 by omega) _
    refine Below.setCell (p := ⟨w.heap.size + 2, 1, none⟩) ?_ (show w.heap.size ≤ w.heap.size + 2 by omega) _
    refine Below.setCell (p := ⟨w.heap.size + 2, 0, none⟩) ?_ (show w.heap.size ≤ w.heap.size + 2 by omega) _
    exact Below.setCell (p := ⟨w.heap.size, 2, none⟩) h.1 (Nat.le_refl _) _
end Go.Proofs.Ytoekmdcldfmmcaa.F
end
section
namespace Go.Proofs.Ytoekmdcldfmmcaa.F
open Go.RowKit Go.Proofs.YtoekmdcldfmmcaaW.PrintWords Go.Proofs.YtoekmdcldfmmcaaW.PrintLast Go.Proofs.YtoekmdcldfmmcaaW.PrintMore
attribute [local go_sem] Oper.semAt_some Instr.field asAgg
set_option linter.unusedVariables false
set_option linter.unusedSimpArgs false
set_option maxHeartbeats 4000000 in
set_option maxRecDepth 100000 in
theorem ring_Drop.calls (a0_0 : Int) (a0_1 : Int) (A0_2 : Option Addr) (c0_2 : Nat) (l0_2 : List (S35)) (a1 : Int) (r1 : Int) (r2 : Int) (r3 : List (S35)) (r4 : Int) (r5 : Int) (r6 : Int) (w : World) (hr0_2 : Kd.C k35 w A0_2 l0_2.length l0_2) (hc0_2 : l0_2.length ≤ c0_2) (h : ring_Drop.f a0_0 a0_1 l0_2 a1 = some (r1, r2, r3, r4, r5, r6)) :
    Calls Try.prog 15 #[.agg #[.int .i64 a0_0, .int .u64 a0_1, .slice A0_2 l0_2.length c0_2], .int .u64 a1] w fun e w' => ∃ v2_ : Value, e = .returned (.tuple #[.agg #[.int .i64 r1, .int .u64 r2, v2_], .agg #[.int .u64 r4, .int .i64 r5], .int .i64 r6]) ∧ Kd.R k35 35 w' w.heap.size (fun _ => True) v2_ r3 ∧ Below w.heap.size w w' := by
  have hu25 := Try.underlying25
  have hu35 := Try.underlying35
  have hu23 := Try.underlying23
  unfold ring_Drop.f at h
  have h0 := Option.bind_eq_some_iff.mp h
  clear h
  obtain ⟨⟨z, e⟩, he, h⟩ := h0
  have HE := Aside0.mk he
  have HR := Aside0.mk hr0_2
  have HC := Aside0.mk hc0_2
  clear he hr0_2
  dsimp only at h
  by_cases c : e = 0
  · subst c
    rw [if_pos rfl] at h
    by_cases c1 : 0 ≤ z
    case neg => rw [if_neg c1] at h; cases h
    rw [if_pos c1] at h
    by_cases c2 : z < (l0_2.length : Int)
    case neg => rw [if_neg c2] at h; cases h
    rw [if_pos c2] at h
    by_cases c3 : l0_2.length ≤ 64
    case neg => rw [if_neg c3] at h; cases h
    rw [if_pos c3] at h
    obtain ⟨i, rfl⟩ : ∃ i : Nat, z = i := ⟨z.toNat, by omega⟩
    rw [show ((i : Int)).toNat = i from rfl] at h
    simp only [Option.some.injEq, Prod.mk.injEq] at h
    obtain ⟨rfl, rfl, rfl, rfl, rfl, rfl⟩ := h
    have HL := Aside0.mk c3
    have HI := Aside0.mk (show i < l0_2.length by omega)
    have p1 : (0 ≤ (i : Int)) = True := eq_true (by omega)
    have p2 : ((i : Int) < (l0_2.length : Int)) = True := eq_true c2
    clear c1 c2 c3
    go_enter Try.func15, Try.ntmps15
    go_upto_region 5 with (go_at_call 27; refine (ring_Find.calls a0_0 a0_1 A0_2 c0_2 l0_2 a1 (i : Int) 0 _ ?hr HC.out HE.out).mono ?_; (case hr => exact Kd.C_below HR.out ((((Below.refl _ w).alloc (Nat.le_refl _) _).alloc (by simp) _).alloc (by simp; omega) _)); rintro e w1 ⟨rfl, hbw⟩; have HS := Aside0.mk (show Tri w w1 _ _ _ from Tri.of hbw); obtain ⟨q0, q1, q2, q3, q4, q5⟩ := tri_cells HS.out.2.1; have ql := blk_lt HS.out.2.1; have ql2 := blk_lt HS.out.2.2.2; obtain ⟨ad, hA, y0, y1⟩ := at_T35 (Kd.C_below HR.out HS.out.1) (i : Int) (by omega) (by have := HI.out; omega); subst hA; rw [show ((i : Int)).toNat = i from rfl] at y0 y1; clear hbw)
    have qa := ql
    have s2 := (blk_cell (blk_alloc HS.out.2.1 (.cells #[.int .u64 (rd_T35 l0_2 ↑i).f0, .int .i64 (rd_T35 l0_2 ↑i).f1] 35)) 2).trans rfl
    have hi1 : wrap64 ((i : Int) + 1) = (i : Int) + 1 := wrap_one (by have := HI.out; have := HL.out; omega)
    have hi2 : IntKind.i64.wrap ((i : Int) + 1) = (i : Int) + 1 := (i64_w _).trans hi1
    have hmx : Try.prog.follows .mixedOrders = true := by kernel_rfl
    clear q0 q1 q2 q3 q4 q5 y0 y1 qa
    obtain ⟨W4, hW4⟩ : ∃ W4, W4 = w1.alloc (.cells #[.int .u64 (rd_T35 l0_2 ↑i).f0, .int .i64 (rd_T35 l0_2 ↑i).f1] 35) := ⟨_, rfl⟩
    have HQ := Aside0.mk (show Qd w W4 _ _ _ w1.heap.size (.cells #[.int .u64 (rd_T35 l0_2 ↑i).f0, .int .i64 (rd_T35 l0_2 ↑i).f1] 35) by rw [hW4]; exact ⟨HS.out.below (below_alloc (Below.refl _ _) _), blk_new _ _, ql2⟩)
    have HCW := Aside0.mk (show Kd.C k35 W4 (some ad) l0_2.length l0_2 by rw [hW4]; exact Kd.C_alloc (Kd.C_below HR.out HS.out.1) _)
    rw [← hW4] at s2 ⊢
    have HW4 := Aside0.mk (show w.heap.size + 2 < W4.heap.size from blk_lt HQ.out.1.2.2.2)
    have HG := Aside0.mk (show w.heap.size + 2 < w1.heap.size from ql2)
    generalize w1.heap.size = g9 at *
    clear hW4 HS ql ql2
    have p3 : ((i : Int) ≤ (c0_2 : Int)) = True := eq_true (by have := HI.out; omega)
    have p4 : ((i : Int) + 1 ≤ (l0_2.length : Int)) = True := eq_true (by have := HI.out; omega)
    have p5 : (0 ≤ (i : Int) + 1) = True := eq_true (by omega)
    have p6 : (c0_2 = 0) = False := eq_false (by have := HI.out; omega)
    clear hc0_2
    by_cases cc : c0_2 = i + 1
    · have p7 : (c0_2 = i + 1) = True := eq_true cc
      clear cc
      go_region_with (go_at_call 39; refine (concat_cut W4 ad _ c0_2 i l0_2 HCW.out HC.out HI.out HL.out (by rw [if_pos (of_eq_true p7)])).mono ?_; rintro e w5 ⟨v, rfl, hR, hb⟩; obtain ⟨A9, n9, c9, rfl⟩ := slice_any hR; have HV := Aside0.mk hR; have HQ5 := Aside0.mk (HQ.out.below hb); obtain ⟨q0, q1, q2, q3, q4, q5⟩ := tri_cells HQ5.out.1.2.1; obtain ⟨q6, q7, q8, q9, q10, q11⟩ := tri_cells HQ5.out.1.2.2.1; obtain ⟨q12, q13, q14, q15⟩ := con_cells HQ5.out.1.2.2.2; obtain ⟨q16, q17, q18, q19⟩ := con_cells HQ5.out.2.1; have ql := blk_lt HQ5.out.1.2.1; have ql2 := blk_lt HQ5.out.1.2.2.2; have ql3 := blk_lt HQ5.out.2.1; clear hR hb s2)
      all_goals
        clear HR HCW HQ HE hi1 hi2 p1 p2 p3 p4 p5 p6 p7
        have n0 : g9 ≠ w.heap.size := by have := HG.out; omega
        have n1 : g9 ≠ w.heap.size + 1 := by have := HG.out; omega
        have n2 : g9 ≠ w.heap.size + 2 := by have := HG.out; omega
        go_upto_region 6 with (fail)
        go_region
      all_goals go_wp2
      all_goals
        have HT := HQ5.out.1
        refine bodyPost_ret (results_list (rs := [.cell 4 25, .cell 5 35, .tmp 6]) rfl (by simp) (.cell (w.heap.size + 1) 25 #[.int .i64 a0_0, .int .u64 a0_1, .slice A9 n9 c9] (0, 0) _ rfl ?h4 hu25 rfl (by kernel_rfl) (.cell (w.heap.size + 2) 35 #[.int .u64 (rd_T35 l0_2 ↑i).f0, .int .i64 (rd_T35 l0_2 ↑i).f1] (0, 0) _ rfl ?h5 hu35 rfl (by kernel_rfl) (.tmp .nil)))) rfl ⟨_, rfl, ?hR, ?hB⟩
        case h4 => first | with_reducible exact (drop_finA HT _ _ _ _ _ _ HW4.out _ HV.out).p1 | with_reducible exact (drop_finB HT _ _ _ _ _ _ HW4.out _ HV.out).p1
        case h5 => first | with_reducible exact (drop_finA HT _ _ _ _ _ _ HW4.out _ HV.out).p2 | with_reducible exact (drop_finB HT _ _ _ _ _ _ HW4.out _ HV.out).p2
        case hR => first | with_reducible exact (drop_finA HT _ _ _ _ _ _ HW4.out _ HV.out).p3 | with_reducible exact (drop_finB HT _ _ _ _ _ _ HW4.out _ HV.out).p3
        case hB => first | with_reducible exact (drop_finA HT _ _ _ _ _ _ HW4.out _ HV.out).p4 | with_reducible exact (drop_finB HT _ _ _ _ _ _ HW4.out _ HV.out).p4
    · have p7 : (c0_2 = i + 1) = False := eq_false cc
      clear cc
      go_region_with (go_at_call 39; refine (concat_cut W4 ad _ c0_2 i l0_2 HCW.out HC.out HI.out HL.out (by rw [if_neg (of_eq_false p7)]; rfl)).mono ?_; rintro e w5 ⟨v, rfl, hR, hb⟩; obtain ⟨A9, n9, c9, rfl⟩ := slice_any hR; have HV := Aside0.mk hR; have HQ5 := Aside0.mk (HQ.out.below hb); obtain ⟨q0, q1, q2, q3, q4, q5⟩ := tri_cells HQ5.out.1.2.1; obtain ⟨q6, q7, q8, q9, q10, q11⟩ := tri_cells HQ5.out.1.2.2.1; obtain ⟨q12, q13, q14, q15⟩ := con_cells HQ5.out.1.2.2.2; obtain ⟨q16, q17, q18, q19⟩ := con_cells HQ5.out.2.1; have ql := blk_lt HQ5.out.1.2.1; have ql2 := blk_lt HQ5.out.1.2.2.2; have ql3 := blk_lt HQ5.out.2.1; clear hR hb s2)
      all_goals
        clear HR HCW HQ HE hi1 hi2 p1 p2 p3 p4 p5 p6 p7
        have n0 : g9 ≠ w.heap.size := by have := HG.out; omega
        have n1 : g9 ≠ w.heap.size + 1 := by have := HG.out; omega
        have n2 : g9 ≠ w.heap.size + 2 := by have := HG.out; omega
        go_upto_region 6 with (fail)
        go_region
      all_goals go_wp2
      all_goals
        have HT := HQ5.out.1
        refine bodyPost_ret (results_list (rs := [.cell 4 25, .cell 5 35, .tmp 6]) rfl (by simp) (.cell (w.heap.size + 1) 25 #[.int .i64 a0_0, .int .u64 a0_1, .slice A9 n9 c9] (0, 0) _ rfl ?h4 hu25 rfl (by kernel_rfl) (.cell (w.heap.size + 2) 35 #[.int .u64 (rd_T35 l0_2 ↑i).f0, .int .i64 (rd_T35 l0_2 ↑i).f1] (0, 0) _ rfl ?h5 hu35 rfl (by kernel_rfl) (.tmp .nil)))) rfl ⟨_, rfl, ?hR, ?hB⟩
        case h4 => first | with_reducible exact (drop_finA HT _ _ _ _ _ _ HW4.out _ HV.out).p1 | with_reducible exact (drop_finB HT _ _ _ _ _ _ HW4.out _ HV.out).p1
        case h5 => first | with_reducible exact (drop_finA HT _ _ _ _ _ _ HW4.out _ HV.out).p2 | with_reducible exact (drop_finB HT _ _ _ _ _ _ HW4.out _ HV.out).p2
        case hR => first | with_reducible exact (drop_finA HT _ _ _ _ _ _ HW4.out _ HV.out).p3 | with_reducible exact (drop_finB HT _ _ _ _ _ _ HW4.out _ HV.out).p3
        case hB => first | with_reducible exact (drop_finA HT _ _ _ _ _ _ HW4.out _ HV.out).p4 | with_reducible exact (drop_finB HT _ _ _ _ _ _ HW4.out _ HV.out).p4
  · rw [if_neg c] at h
    have cb : (e != 0) = true := bne_iff_ne.mpr c
    clear c
    simp only [Option.some.injEq, Prod.mk.injEq] at h
    obtain ⟨rfl, rfl, rfl, rfl, rfl, rfl⟩ := h
    go_enter Try.func15, Try.ntmps15
    go_wp2_with (go_at_call 27; refine (ring_Find.calls a0_0 a0_1 A0_2 c0_2 l0_2 a1 z e _ ?hr HC.out HE.out).mono ?_; (case hr => exact Kd.C_below HR.out ((((Below.refl _ w).alloc (Nat.le_refl _) _).alloc (by simp) _).alloc (by simp; omega) _)); rintro e w1 ⟨rfl, hbw⟩; have HS := Aside0.mk (show Tri w w1 _ _ _ from Tri.of hbw); obtain ⟨q0, q1, q2, q3, q4, q5⟩ := tri_cells HS.out.2.1; obtain ⟨q6, q7, q8, q9, q10, q11⟩ := tri_cells HS.out.2.2.1; obtain ⟨q12, q13, q14, q15⟩ := con_cells HS.out.2.2.2; have ql := blk_lt HS.out.2.1; have ql2 := blk_lt HS.out.2.2.2; clear hbw)
    have hb3 := (((((HS.out.1.setCell (p := ⟨w.heap.size + 1, 0, none⟩) (by show w.heap.size ≤ w.heap.size + 1; omega) (.int .i64 0)).setCell (p := ⟨w.heap.size + 1, 1, none⟩) (by show w.heap.size ≤ w.heap.size + 1; omega) (.int .u64 0)).setCell (p := ⟨w.heap.size + 1, 2, none⟩) (by show w.heap.size ≤ w.heap.size + 1; omega) (.slice none 0 0)).setCell (p := ⟨w.heap.size + 2, 0, none⟩) (by show w.heap.size ≤ w.heap.size + 2; omega) (.int .u64 0)).setCell (p := ⟨w.heap.size + 2, 1, none⟩) (by show w.heap.size ≤ w.heap.size + 2; omega) (.int .i64 0))
    exact bodyPost_ret (results_list (rs := [.cell 4 25, .cell 5 35, .tmp 6]) rfl (by simp) (.cell (w.heap.size + 1) 25 #[.int .i64 0, .int .u64 0, .slice none 0 0] (0, 0) _ rfl (blk_far (blk_far (blk_put (blk_put (blk_put HS.out.2.2.1 0 _ rfl) 1 _ rfl) 2 _ rfl) (show w.heap.size + 1 ≠ w.heap.size + 2 by omega) _) (show w.heap.size + 1 ≠ w.heap.size + 2 by omega) _) hu25 rfl (by kernel_rfl) (.cell (w.heap.size + 2) 35 #[.int .u64 0, .int .i64 0] (0, 0) _ rfl (blk_put (blk_put (blk_far (blk_far (blk_far HS.out.2.2.2 (show w.heap.size + 2 ≠ w.heap.size + 1 by omega) _) (show w.heap.size + 2 ≠ w.heap.size + 1 by omega) _) (show w.heap.size + 2 ≠ w.heap.size + 1 by omega) _) 0 _ rfl) 1 _ rfl) hu35 rfl (by kernel_rfl) (.tmp .nil)))) rfl ⟨_, rfl, Kd.R_nil _ _ _ _ _, hb3⟩

end Go.Proofs.Ytoekmdcldfmmcaa.F
end
section
-- Written by fork.py (this session's program over the kit's print.py). Not trusted: Lean checks it.
namespace Go.Proofs.Ytoekmdcldfmmcaa.F
open Go.RowKit Go.Proofs.YtoekmdcldfmmcaaW.PrintWords Go.Proofs.YtoekmdcldfmmcaaW.PrintLast Go.Proofs.YtoekmdcldfmmcaaW.PrintMore
attribute [local go_sem] max2_int min2_int max_two min_two max_three min_three max_four min_four
set_option linter.unusedVariables false
set_option linter.unusedSimpArgs false

attribute [local go_sem high] eqA35
/-! ### L05_after: function 34 -/
def L05_after.f (k : Nat)  : Option (Int × Int × (List (S35)) × Bool) := (L05_shown.f k).bind fun bt151 => ((ring_Drop.f bt151.1 bt151.2.1 bt151.2.2.1 2).bind fun bt158 => ((ring_Put.f bt158.1 bt158.2.1 bt158.2.2.1 9).bind fun bt168 => (if bt151.2.2.2 = true then (if bt158.2.2.2.2.2 = 0 then (if (bt158.2.2.2.1 == 2 && (bt158.2.2.2.2.1 == 8)) = true then (if bt168.2.2.2.2 = 0 then (if bt168.2.2.2.1 = 4 then ((L05_held.f k (([1, 7, 3, 7, 4, 9] : List Int))).bind fun t179 => ((K_SameHeld.f k bt168.2.2.1 t179).bind fun t182 => (some (bt168.1, bt168.2.1, bt168.2.2.1, t182)))) else (some (bt168.1, bt168.2.1, bt168.2.2.1, false))) else (some (bt168.1, bt168.2.1, bt168.2.2.1, false))) else (some (bt168.1, bt168.2.1, bt168.2.2.1, false))) else (some (bt168.1, bt168.2.1, bt168.2.2.1, false))) else (some (bt168.1, bt168.2.1, bt168.2.2.1, false)))))
theorem L05_after.mono : ∀ k, LeO (L05_after.f k ) (L05_after.f (k + 1) ) := by
  intro  k
  unfold L05_after.f
  repeat' first
      | (with_reducible exact K_SameHeld.mono _ _ _)
      | (with_reducible exact L05_held.mono _ _)
      | (with_reducible exact L05_shown.mono _)
      | (with_reducible exact LeO.refl _)
      | (with_reducible exact LeO.none _)
      | (with_reducible refine LeO.ite ?_ ?_)
      | (with_reducible refine LeO.bind ?_ (fun _ => ?_))
      | exact K_SameHeld.mono _ _ _
      | exact L05_held.mono _ _
      | exact L05_shown.mono _
      | exact LeO.none _
      | refine LeO.ite ?_ ?_
      | refine LeO.bind ?_ (fun _ => ?_)
def L05_after.T4 : Bool × List (List Nat × List Nat) := (true, [([], []), ([], []), ([1], [1]), ([2], [2]), ([3, 2], [2, 3]), ([2, 4], [2, 4]), ([5, 2], [5]), ([6], [6]), ([6], [6]), ([7, 8, 6], [6, 7, 8]), ([6, 9], [6, 9]), ([10, 6], [10]), ([11], [11]), ([12, 11], [11, 12]), ([11, 13], [11, 13]), ([14, 11], [14]), ([15], [15]), ([16, 15], [15, 16]), ([15, 17], [15, 17]), ([18, 15], [18]), ([19], [19]), ([20, 19], [19, 20]), ([19], [19]), ([22, 19, 19], [19, 22]), ([21, 23, 23, 19], [19, 21, 23]), ([19, 24], [19, 24]), ([0, 24, 0], [0]), ([25, 26, 0, 1, 2, 3, 4, 5, 6, 7, 8, 9, 10, 11, 12, 13, 14, 15, 16, 17, 18, 19, 20, 21, 22, 23, 24, 25, 26], [25])])
def L05_after.B4 : List Nat := [0, 0, 2, 6, 14, 30, 62, 126, 126, 510, 1022, 2046, 4094, 8190, 16382, 32766, 65534, 131070, 262142, 524286, 1048574, 2097150, 1048574, 5242878, 16777214, 33554430, 33554431, 134217727]
theorem L05_after.tab4 : rtab .any (opsOf Try.f34 4) = L05_after.T4 := by kernel_rfl
theorem L05_after.bits4 : waitsOk L05_after.T4.2 L05_after.B4 = true := by kernel_rfl
theorem L05_after.tells {k : Nat} {r1 r2 : Int} {r3 : List S35} {r4 : Bool} (h : L05_after.f k = some (r1, r2, r3, r4)) : r4 = true := by
  have h0 : (L05_after.f 300).map (fun q => q.2.2.2) = some true := by kernel_rfl
  obtain ⟨q, hq, hq1⟩ := Option.map_eq_some_iff.mp h0
  rcases Nat.le_total k 300 with hk | hk
  · have h1 := lift_fuel L05_after.mono hk h
    rw [h1] at hq
    obtain rfl := Option.some.inj hq
    exact hq1
  · have h1 := lift_fuel L05_after.mono hk hq
    rw [h] at h1
    obtain rfl := Option.some.inj h1
    exact hq1
set_option maxHeartbeats 8000000 in
set_option maxRecDepth 100000 in
theorem L05_after.calls (k : Nat)  (r1 : Int) (r2 : Int) (r3 : List (S35)) (r4 : Bool) (w : World) (h : L05_after.f k  = some (r1, r2, r3, r4)) :
    Calls Try.prog 34 #[] w fun e w' => ∃ v2_ : Value, e = .returned (.tuple #[.agg #[.int .i64 r1, .int .u64 r2, v2_], .bool r4]) ∧ Kd.R k35 35 w' w.heap.size (fun _ => True) v2_ r3 ∧ Below w.heap.size w w' := by
  have hu25 := Try.underlying25
  have hu35 := Try.underlying35
  have HB := Aside0.mk (Below.refl w.heap.size w)
  have H : ((L05_shown.f k).bind fun bt151 => ((ring_Drop.f bt151.1 bt151.2.1 bt151.2.2.1 2).bind fun bt158 => ((ring_Put.f bt158.1 bt158.2.1 bt158.2.2.1 9).bind fun bt168 => (if bt151.2.2.2 = true then (if bt158.2.2.2.2.2 = 0 then (if (bt158.2.2.2.1 == 2 && (bt158.2.2.2.2.1 == 8)) = true then (if bt168.2.2.2.2 = 0 then (if bt168.2.2.2.1 = 4 then ((L05_held.f k (([1, 7, 3, 7, 4, 9] : List Int))).bind fun t179 => ((K_SameHeld.f k bt168.2.2.1 t179).bind fun t182 => (some (bt168.1, bt168.2.1, bt168.2.2.1, t182)))) else (some (bt168.1, bt168.2.1, bt168.2.2.1, false))) else (some (bt168.1, bt168.2.1, bt168.2.2.1, false))) else (some (bt168.1, bt168.2.1, bt168.2.2.1, false))) else (some (bt168.1, bt168.2.1, bt168.2.2.1, false))) else (some (bt168.1, bt168.2.1, bt168.2.2.1, false)))))) = some (r1, r2, r3, r4) := h
  have hT := L05_after.tells h
  clear h
  replace H := Option.bind_eq_some_iff.mp H
  obtain ⟨⟨t151, t152, t153, t156⟩, A10, H⟩ := H
  replace H : ((ring_Drop.f t151 t152 t153 2).bind fun bt158 => ((ring_Put.f bt158.1 bt158.2.1 bt158.2.2.1 9).bind fun bt168 => (if t156 = true then (if bt158.2.2.2.2.2 = 0 then (if (bt158.2.2.2.1 == 2 && (bt158.2.2.2.2.1 == 8)) = true then (if bt168.2.2.2.2 = 0 then (if bt168.2.2.2.1 = 4 then ((L05_held.f k (([1, 7, 3, 7, 4, 9] : List Int))).bind fun t179 => ((K_SameHeld.f k bt168.2.2.1 t179).bind fun t182 => (some (bt168.1, bt168.2.1, bt168.2.2.1, t182)))) else (some (bt168.1, bt168.2.1, bt168.2.2.1, false))) else (some (bt168.1, bt168.2.1, bt168.2.2.1, false))) else (some (bt168.1, bt168.2.1, bt168.2.2.1, false))) else (some (bt168.1, bt168.2.1, bt168.2.2.1, false))) else (some (bt168.1, bt168.2.1, bt168.2.2.1, false))))) = some (r1, r2, r3, r4) := H
  have A1 := Aside0.mk A10
  clear A10
  replace H := Option.bind_eq_some_iff.mp H
  obtain ⟨⟨t158, t159, t160, t163, t164, t165⟩, A20, H⟩ := H
  replace H : ((ring_Put.f t158 t159 t160 9).bind fun bt168 => (if t156 = true then (if t165 = 0 then (if (t163 == 2 && (t164 == 8)) = true then (if bt168.2.2.2.2 = 0 then (if bt168.2.2.2.1 = 4 then ((L05_held.f k (([1, 7, 3, 7, 4, 9] : List Int))).bind fun t179 => ((K_SameHeld.f k bt168.2.2.1 t179).bind fun t182 => (some (bt168.1, bt168.2.1, bt168.2.2.1, t182)))) else (some (bt168.1, bt168.2.1, bt168.2.2.1, false))) else (some (bt168.1, bt168.2.1, bt168.2.2.1, false))) else (some (bt168.1, bt168.2.1, bt168.2.2.1, false))) else (some (bt168.1, bt168.2.1, bt168.2.2.1, false))) else (some (bt168.1, bt168.2.1, bt168.2.2.1, false)))) = some (r1, r2, r3, r4) := H
  have A2 := Aside0.mk A20
  clear A20
  replace H := Option.bind_eq_some_iff.mp H
  obtain ⟨⟨t168, t169, t170, t173, t174⟩, A30, H⟩ := H
  replace H : (if t156 = true then (if t165 = 0 then (if (t163 == 2 && (t164 == 8)) = true then (if t174 = 0 then (if t173 = 4 then ((L05_held.f k (([1, 7, 3, 7, 4, 9] : List Int))).bind fun t179 => ((K_SameHeld.f k t170 t179).bind fun t182 => (some (t168, t169, t170, t182)))) else (some (t168, t169, t170, false))) else (some (t168, t169, t170, false))) else (some (t168, t169, t170, false))) else (some (t168, t169, t170, false))) else (some (t168, t169, t170, false))) = some (r1, r2, r3, r4) := H
  have A3 := Aside0.mk A30
  clear A30
  by_cases c4 : t156 = true
  · subst c4
    have H1 : (if t165 = 0 then (if (t163 == 2 && (t164 == 8)) = true then (if t174 = 0 then (if t173 = 4 then ((L05_held.f k (([1, 7, 3, 7, 4, 9] : List Int))).bind fun t179 => ((K_SameHeld.f k t170 t179).bind fun t182 => (some (t168, t169, t170, t182)))) else (some (t168, t169, t170, false))) else (some (t168, t169, t170, false))) else (some (t168, t169, t170, false))) else (some (t168, t169, t170, false))) = some (r1, r2, r3, r4) := by rw [if_pos rfl] at H; exact H
    clear H
    have H := H1
    clear H1
    by_cases c5 : t165 = 0
    · rw [if_pos c5] at H
      have c5b0 : (t165 == 0) = true := beq_iff_eq.mpr c5
      have c5b1 : (t165 != 0) = false := bne_eq_false_iff_eq.mpr c5
      clear c5
      by_cases c6 : (t163 == 2 && (t164 == 8)) = true
      · rw [if_pos c6] at H
        have c6b0 : (t163 == 2 && (t164 == 8)) = true := c6
        (try (have c6b1 : decide (t163 = 2 && (t164 == 8)) = true := by simpa using c6))
        (try (have c6b2 : (t163 == 2 && (t164 == 8)) = true := by simpa using c6))
        clear c6
        by_cases c7 : t174 = 0
        · rw [if_pos c7] at H
          have c7b0 : (t174 == 0) = true := beq_iff_eq.mpr c7
          have c7b1 : (t174 != 0) = false := bne_eq_false_iff_eq.mpr c7
          clear c7
          by_cases c8 : t173 = 4
          · rw [if_pos c8] at H
            have c8b0 : (t173 == 4) = true := beq_iff_eq.mpr c8
            have c8b1 : (t173 != 4) = false := bne_eq_false_iff_eq.mpr c8
            clear c8
            obtain ⟨y176, hy176⟩ : ∃ y_ : List Int, y_ = (([1, 7, 3, 7, 4, 9] : List Int)) := ⟨_, rfl⟩
            replace H : ((L05_held.f k y176).bind fun t179 => ((K_SameHeld.f k t170 t179).bind fun t182 => (some (t168, t169, t170, t182)))) = some (r1, r2, r3, r4) := by first | (rw [hy176]; with_reducible exact H) | (have H2_ := (Option.bind_some _ _).symm.trans H; rw [hy176]; with_reducible exact H2_) | (have H2_ := (Option.bind_some _ _).symm.trans H; with_reducible exact H2_) | with_reducible exact H | (rw [hy176]; exact H) | exact H
            have Ny176 := Aside0.mk hy176
            clear hy176
            replace H := Option.bind_eq_some_iff.mp H
            obtain ⟨t179, A90, H⟩ := H
            replace H : ((K_SameHeld.f k t170 t179).bind fun t182 => (some (t168, t169, t170, t182))) = some (r1, r2, r3, r4) := H
            have A9 := Aside0.mk A90
            clear A90
            replace H := Option.bind_eq_some_iff.mp H
            obtain ⟨t182, A100, H⟩ := H
            replace H : (some (t168, t169, t170, t182)) = some (r1, r2, r3, r4) := H
            have A10 := Aside0.mk A100
            clear A100
            simp only [Option.some.injEq, Prod.mk.injEq] at H
            obtain ⟨rfl, rfl, rfl, rfl⟩ := H
            clear hT
            go_enter Try.func34, Try.ntmps34
            try go_wp2_with (first | ((with_reducible refine gate_dst (N := 0) rfl ?_); (try (refine gate_guard (by rfl) ?_; dsimp only)); refine box_event ?hg (N := 0) ?hd (cs := #[.int .i64 0, .int .u64 0, .slice none 0 0]) (t := 25) ?hr ?_; (case hd => rfl); (case hg => rfl); (case hr => first | (go_simp; done) | (go_simp; rfl)); intro gb150 hg w11 hbox hb; have n0_ := Aside0.mk (below_step (by repeat (first | (with_reducible first | exact HB.out | apply below_alloc | apply pw_below_drewN | apply below_drew1) | exact HB.out)) hb); have n1_ := Aside0.mk (hbox); have n2_ := Aside0.mk ((by rw [hg]; exact (below_size (by repeat (first | (with_reducible first | exact HB.out | apply below_alloc | apply pw_below_drewN | apply below_drew1) | exact HB.out))) : w.heap.size ≤ gb150)); have n3_ := Aside0.mk ((by rw [hg]; exact (below_size (by repeat (first | (with_reducible first | exact HB.out | apply below_alloc | apply pw_below_drewN | apply below_drew1) | exact HB.out))) : w.heap.size ≤ gb150)); clear HB; have HB := n0_; have BK150 := n1_; have GW150 := n2_; have GE150 := n3_; clear n0_ n1_ n2_ n3_; clear hb hbox hg) | ((with_reducible refine gate_callee (f := 33) rfl ?_); refine goesL_ (some 11) rfl rfl Try.func33 (by kernel_rfl) rfl #[] rfl (by (try simp only [List.map_toArray, List.map_cons, List.map_nil]); first | done | rfl | (simp only [List.length_drop, List.length_take]; rfl)) ?_; (with_reducible refine (L05_shown.calls k  t151 t152 t153 true _ A1.out).mono ?_); rintro e w12 ⟨v154, rfl, ho0, hb⟩; refine ⟨_, rfl, ?_⟩; have n0_ := Aside0.mk (Kd.V_lower (Kd.V_mono (ok' := fun k_ => k_ ≠ gb150) ho0 (fun k_ hk_ => (Kd.freshB (g := gb150) (o := .cells #[.int .i64 0, .int .u64 0, .slice none 0 0] 25 (0, 0)) (by (with_reducible repeat (first | refine blk_drewN ?_ _ | refine blk_drew ?_ | refine blk_alloc ?_ _)); exact BK150.out) k_ hk_))) (below_size (by repeat (first | (with_reducible first | exact HB.out | apply below_alloc | apply pw_below_drewN | apply below_drew1 | refine below_set ?_ GE150.out) | exact HB.out)))); have n1_ := Aside0.mk (blk_below (g := gb150) (o := .cells #[.int .i64 0, .int .u64 0, .slice none 0 0] 25 (0, 0)) (by (with_reducible repeat (first | refine blk_drewN ?_ _ | refine blk_drew ?_ | refine blk_alloc ?_ _)); exact BK150.out) hb); have n2_ := Aside0.mk (below_step (by repeat (first | (with_reducible first | exact HB.out | apply below_alloc | apply pw_below_drewN | apply below_drew1 | refine below_set ?_ GE150.out) | exact HB.out)) hb); clear BK150; clear HB; have HO155 := n0_; have BK150 := n1_; have HB := n2_; clear n0_ n1_ n2_; (try clear hb); (try clear hb2); (try clear hk); (try clear hi); (try clear ho0)) | ((with_reducible refine gate_dst (N := 2) rfl ?_); (try (refine gate_guard (by rfl) ?_; dsimp only)); refine box_event ?hg (N := 2) ?hd (cs := #[.int .i64 0, .int .u64 0, .slice none 0 0]) (t := 25) ?hr ?_; (case hd => rfl); (case hg => rfl); (case hr => first | (go_simp; done) | (go_simp; rfl)); intro gb157 hg w13 hbox hb; have n0_ := Aside0.mk (Kd.V_below (Kd.V_elderB (by (with_reducible repeat (first | apply Kd.V_alloc | apply Kd.V_drewN | apply Kd.V_drew)); exact HO155.out) gb157 (Nat.le_of_eq hg.symm)) hb); have n1_ := Aside0.mk (blk_below (g := gb150) (o := .cells #[.int .i64 0, .int .u64 0, .slice none 0 0] 25 (0, 0)) (by (with_reducible repeat (first | refine blk_drewN ?_ _ | refine blk_drew ?_ | refine blk_alloc ?_ _)); exact BK150.out) hb); have n2_ := Aside0.mk (below_step (by repeat (first | (with_reducible first | exact HB.out | apply below_alloc | apply pw_below_drewN | apply below_drew1 | refine below_set ?_ GE150.out) | exact HB.out)) hb); have n3_ := Aside0.mk (hbox); have n4_ := Aside0.mk ((by rw [hg]; exact (below_size (by repeat (first | (with_reducible first | exact HB.out | apply below_alloc | apply pw_below_drewN | apply below_drew1 | refine below_set ?_ GE150.out) | exact HB.out))) : w.heap.size ≤ gb157)); have n5_ := Aside0.mk ((by rw [hg]; exact (below_size (by repeat (first | (with_reducible first | exact HB.out | apply below_alloc | apply pw_below_drewN | apply below_drew1 | refine below_set ?_ GE150.out) | exact HB.out))) : w.heap.size ≤ gb157)); have n6_ := Aside0.mk ((by rw [hg]; exact Nat.ne_of_lt (blk_lt (g := gb150) (o := .cells #[.int .i64 0, .int .u64 0, .slice none 0 0] 25 (0, 0)) (by (with_reducible repeat (first | refine blk_drewN ?_ _ | refine blk_drew ?_ | refine blk_alloc ?_ _)); exact BK150.out)) : gb150 ≠ gb157)); have n7_ := Aside0.mk ((by rw [hg]; exact Nat.ne_of_gt (blk_lt (g := gb150) (o := .cells #[.int .i64 0, .int .u64 0, .slice none 0 0] 25 (0, 0)) (by (with_reducible repeat (first | refine blk_drewN ?_ _ | refine blk_drew ?_ | refine blk_alloc ?_ _)); exact BK150.out)) : gb157 ≠ gb150)); clear HO155; clear BK150; clear HB; have HO155 := n0_; have BK150 := n1_; have HB := n2_; have BK157 := n3_; have GW157 := n4_; have GE157 := n5_; have NB150_157 := n6_; have NB157_150 := n7_; clear n0_ n1_ n2_ n3_ n4_ n5_ n6_ n7_; clear hb hbox hg; have hnb14 := NB157_150.out; have hnc14 := NB150_157.out; have hcz15_0 : w13.cell? ⟨gb157, 0, none⟩ = some (.int .i64 0) := (blk_cell BK157.out 0).trans rfl; have hcz15_1 : w13.cell? ⟨gb157, 1, none⟩ = some (.int .u64 0) := (blk_cell BK157.out 1).trans rfl; have hcz15_2 : w13.cell? ⟨gb157, 2, none⟩ = some (.slice none 0 0) := (blk_cell BK157.out 2).trans rfl; have hfz15_0 := blk_frozen BK157.out 0; have hfz15_1 := blk_frozen BK157.out 1; have hfz15_2 := blk_frozen BK157.out 2; obtain ⟨Ao16, co16, eo16⟩ := Kd.V_slice HO155.out; subst eo16) | ((with_reducible refine gate_callee (f := 15) rfl ?_); refine goesL_ (some 16) rfl rfl Try.func15 (by kernel_rfl) rfl #[.agg #[.int .i64 t151, .int .u64 t152, .slice Ao16 t153.length co16], .int .u64 2] rfl (by (try simp only [List.map_toArray, List.map_cons, List.map_nil]); first | done | rfl | (simp only [List.length_drop, List.length_take]; rfl)) ?_; (with_reducible refine (ring_Drop.calls t151 t152 _ _ t153 2 t158 t159 t160 t163 t164 t165 _ ?side1 ?side2 A2.out).mono ?_); (case side1 => refine (Kd.V_reads' (e := 35) (base := w.heap.size) (ok := fun k_ => (k_ ≠ gb150 ∧ k_ ≠ gb157)) (n := t153.length) (c := co16) ?_).2.2; exact (by (with_reducible repeat (first | apply Kd.V_alloc | apply Kd.V_drewN | apply Kd.V_drew)); exact (Kd.V_mono (Kd.V_far (p := ⟨gb157, 2, none⟩) (Kd.V_far (p := ⟨gb157, 1, none⟩) (Kd.V_far (p := ⟨gb157, 0, none⟩) (Kd.V_mono HO155.out (fun k_ hk => (⟨hk, hk.2⟩ : _ ∧ k_ ≠ gb157))) (fun _ hk => hk.2) (.int .i64 t151)) (fun _ hk => hk.2) (.int .u64 t152)) (fun _ hk => hk.2) (.slice Ao16 t153.length co16)) (fun _ h_ => h_.1)))); (case side2 => exact (Kd.V_reads' HO155.out).2.1); rintro e w17 ⟨v161, rfl, ho0, hb⟩; refine ⟨_, rfl, ?_⟩; have n0_ := Aside0.mk (Kd.V_elder' (by (with_reducible repeat (first | apply Kd.V_alloc | apply Kd.V_drewN | apply Kd.V_drew)); exact (Kd.V_mono (Kd.V_far (p := ⟨gb157, 2, none⟩) (Kd.V_far (p := ⟨gb157, 1, none⟩) (Kd.V_far (p := ⟨gb157, 0, none⟩) (Kd.V_mono HO155.out (fun k_ hk => (⟨hk, hk.2⟩ : _ ∧ k_ ≠ gb157))) (fun _ hk => hk.2) (.int .i64 t151)) (fun _ hk => hk.2) (.int .u64 t152)) (fun _ hk => hk.2) (.slice Ao16 t153.length co16)) (fun _ h_ => h_.1))) (Kd.R_base ho0) hb); have n1_ := Aside0.mk (Kd.R_lower ho0 (below_size (by repeat (first | (with_reducible first | exact HB.out | apply below_alloc | apply pw_below_drewN | apply below_drew1 | refine below_set ?_ GE150.out | refine below_set ?_ GE157.out) | exact HB.out)))); have n2_ := Aside0.mk (blk_below (g := gb150) (o := .cells #[.int .i64 0, .int .u64 0, .slice none 0 0] 25 (0, 0)) (by (with_reducible repeat (first | refine blk_drewN ?_ _ | refine blk_drew ?_ | refine blk_alloc ?_ _)); refine blk_far ?_ NB150_157.out _; (with_reducible repeat (first | refine blk_drewN ?_ _ | refine blk_drew ?_ | refine blk_alloc ?_ _)); refine blk_far ?_ NB150_157.out _; (with_reducible repeat (first | refine blk_drewN ?_ _ | refine blk_drew ?_ | refine blk_alloc ?_ _)); refine blk_far ?_ NB150_157.out _; (with_reducible repeat (first | refine blk_drewN ?_ _ | refine blk_drew ?_ | refine blk_alloc ?_ _)); exact BK150.out) hb); have n3_ := Aside0.mk (blk_below (g := gb157) (o := .cells #[.int .i64 t151, .int .u64 t152, .slice Ao16 t153.length co16] 25 (0, 0)) (by (with_reducible repeat (first | refine blk_drewN ?_ _ | refine blk_drew ?_ | refine blk_alloc ?_ _)); refine blk_put (cs := #[.int .i64 t151, .int .u64 t152, .slice none 0 0]) ?_ 2 _ rfl; (with_reducible repeat (first | refine blk_drewN ?_ _ | refine blk_drew ?_ | refine blk_alloc ?_ _)); refine blk_put (cs := #[.int .i64 t151, .int .u64 0, .slice none 0 0]) ?_ 1 _ rfl; (with_reducible repeat (first | refine blk_drewN ?_ _ | refine blk_drew ?_ | refine blk_alloc ?_ _)); refine blk_put (cs := #[.int .i64 0, .int .u64 0, .slice none 0 0]) ?_ 0 _ rfl; (with_reducible repeat (first | refine blk_drewN ?_ _ | refine blk_drew ?_ | refine blk_alloc ?_ _)); exact BK157.out) hb); have n4_ := Aside0.mk (below_step (by repeat (first | (with_reducible first | exact HB.out | apply below_alloc | apply pw_below_drewN | apply below_drew1 | refine below_set ?_ GE150.out | refine below_set ?_ GE157.out) | exact HB.out)) hb); clear HO155; clear BK150; clear BK157; clear HB; have HO155 := n0_; have HO162 := n1_; have BK150 := n2_; have BK157 := n3_; have HB := n4_; clear n0_ n1_ n2_ n3_ n4_; (try clear hb); (try clear hb2); (try clear hk); (try clear hi); (try clear ho0)) | ((with_reducible refine gate_dst (N := 4) rfl ?_); (try (refine gate_guard (by rfl) ?_; dsimp only)); refine box_event ?hg (N := 4) ?hd (cs := #[.int .i64 0, .int .u64 0, .slice none 0 0]) (t := 25) ?hr ?_; (case hd => rfl); (case hg => rfl); (case hr => first | (go_simp; done) | (go_simp; rfl)); intro gb166 hg w18 hbox hb; have n0_ := Aside0.mk (Kd.V_below (Kd.V_elderB (by (with_reducible repeat (first | apply Kd.V_alloc | apply Kd.V_drewN | apply Kd.V_drew)); exact HO155.out) gb166 (Nat.le_of_eq hg.symm)) hb); have n1_ := Aside0.mk (Kd.R_below (by (with_reducible repeat (first | apply Kd.R_alloc | apply Kd.R_drewN | apply Kd.R_drew)); exact HO162.out) hb); have n2_ := Aside0.mk (blk_below (g := gb150) (o := .cells #[.int .i64 0, .int .u64 0, .slice none 0 0] 25 (0, 0)) (by (with_reducible repeat (first | refine blk_drewN ?_ _ | refine blk_drew ?_ | refine blk_alloc ?_ _)); exact BK150.out) hb); have n3_ := Aside0.mk (blk_below (g := gb157) (o := .cells #[.int .i64 t151, .int .u64 t152, .slice Ao16 t153.length co16] 25 (0, 0)) (by (with_reducible repeat (first | refine blk_drewN ?_ _ | refine blk_drew ?_ | refine blk_alloc ?_ _)); exact BK157.out) hb); have n4_ := Aside0.mk (below_step (by repeat (first | (with_reducible first | exact HB.out | apply below_alloc | apply pw_below_drewN | apply below_drew1 | refine below_set ?_ GE150.out | refine below_set ?_ GE157.out) | exact HB.out)) hb); have n5_ := Aside0.mk (hbox); have n6_ := Aside0.mk ((by rw [hg]; exact (below_size (by repeat (first | (with_reducible first | exact HB.out | apply below_alloc | apply pw_below_drewN | apply below_drew1 | refine below_set ?_ GE150.out | refine below_set ?_ GE157.out) | exact HB.out))) : w.heap.size ≤ gb166)); have n7_ := Aside0.mk ((by rw [hg]; exact (below_size (by repeat (first | (with_reducible first | exact HB.out | apply below_alloc | apply pw_below_drewN | apply below_drew1 | refine below_set ?_ GE150.out | refine below_set ?_ GE157.out) | exact HB.out))) : w.heap.size ≤ gb166)); have n8_ := Aside0.mk ((by rw [hg]; exact Nat.ne_of_lt (blk_lt (g := gb150) (o := .cells #[.int .i64 0, .int .u64 0, .slice none 0 0] 25 (0, 0)) (by (with_reducible repeat (first | refine blk_drewN ?_ _ | refine blk_drew ?_ | refine blk_alloc ?_ _)); exact BK150.out)) : gb150 ≠ gb166)); have n9_ := Aside0.mk ((by rw [hg]; exact Nat.ne_of_gt (blk_lt (g := gb150) (o := .cells #[.int .i64 0, .int .u64 0, .slice none 0 0] 25 (0, 0)) (by (with_reducible repeat (first | refine blk_drewN ?_ _ | refine blk_drew ?_ | refine blk_alloc ?_ _)); exact BK150.out)) : gb166 ≠ gb150)); have n10_ := Aside0.mk ((by rw [hg]; exact Nat.ne_of_lt (blk_lt (g := gb157) (o := .cells #[.int .i64 t151, .int .u64 t152, .slice Ao16 t153.length co16] 25 (0, 0)) (by (with_reducible repeat (first | refine blk_drewN ?_ _ | refine blk_drew ?_ | refine blk_alloc ?_ _)); exact BK157.out)) : gb157 ≠ gb166)); have n11_ := Aside0.mk ((by rw [hg]; exact Nat.ne_of_gt (blk_lt (g := gb157) (o := .cells #[.int .i64 t151, .int .u64 t152, .slice Ao16 t153.length co16] 25 (0, 0)) (by (with_reducible repeat (first | refine blk_drewN ?_ _ | refine blk_drew ?_ | refine blk_alloc ?_ _)); exact BK157.out)) : gb166 ≠ gb157)); clear HO155; clear HO162; clear BK150; clear BK157; clear HB; have HO155 := n0_; have HO162 := n1_; have BK150 := n2_; have BK157 := n3_; have HB := n4_; have BK166 := n5_; have GW166 := n6_; have GE166 := n7_; have NB150_166 := n8_; have NB166_150 := n9_; have NB157_166 := n10_; have NB166_157 := n11_; clear n0_ n1_ n2_ n3_ n4_ n5_ n6_ n7_ n8_ n9_ n10_ n11_; clear hb hbox hg) | ((with_reducible refine gate_dst (N := 5) rfl ?_); (try (refine gate_guard (by rfl) ?_; dsimp only)); refine box_event ?hg (N := 5) ?hd (cs := #[.int .u64 0, .int .i64 0]) (t := 35) ?hr ?_; (case hd => rfl); (case hg => rfl); (case hr => first | (go_simp; done) | (go_simp; rfl)); intro gb167 hg w19 hbox hb; have n0_ := Aside0.mk (Kd.V_below (Kd.V_elderB (by (with_reducible repeat (first | apply Kd.V_alloc | apply Kd.V_drewN | apply Kd.V_drew)); exact HO155.out) gb167 (Nat.le_of_eq hg.symm)) hb); have n1_ := Aside0.mk (Kd.R_below (Kd.R_elderB (by (with_reducible repeat (first | apply Kd.R_alloc | apply Kd.R_drewN | apply Kd.R_drew)); exact HO162.out) gb167 (Nat.le_of_eq hg.symm)) hb); have n2_ := Aside0.mk (blk_below (g := gb150) (o := .cells #[.int .i64 0, .int .u64 0, .slice none 0 0] 25 (0, 0)) (by (with_reducible repeat (first | refine blk_drewN ?_ _ | refine blk_drew ?_ | refine blk_alloc ?_ _)); exact BK150.out) hb); have n3_ := Aside0.mk (blk_below (g := gb157) (o := .cells #[.int .i64 t151, .int .u64 t152, .slice Ao16 t153.length co16] 25 (0, 0)) (by (with_reducible repeat (first | refine blk_drewN ?_ _ | refine blk_drew ?_ | refine blk_alloc ?_ _)); exact BK157.out) hb); have n4_ := Aside0.mk (blk_below (g := gb166) (o := .cells #[.int .i64 0, .int .u64 0, .slice none 0 0] 25 (0, 0)) (by (with_reducible repeat (first | refine blk_drewN ?_ _ | refine blk_drew ?_ | refine blk_alloc ?_ _)); exact BK166.out) hb); have n5_ := Aside0.mk (below_step (by repeat (first | (with_reducible first | exact HB.out | apply below_alloc | apply pw_below_drewN | apply below_drew1 | refine below_set ?_ GE150.out | refine below_set ?_ GE157.out | refine below_set ?_ GE166.out) | exact HB.out)) hb); have n6_ := Aside0.mk (hbox); have n7_ := Aside0.mk ((by rw [hg]; exact (below_size (by repeat (first | (with_reducible first | exact HB.out | apply below_alloc | apply pw_below_drewN | apply below_drew1 | refine below_set ?_ GE150.out | refine below_set ?_ GE157.out | refine below_set ?_ GE166.out) | exact HB.out))) : w.heap.size ≤ gb167)); have n8_ := Aside0.mk ((by rw [hg]; exact (below_size (by repeat (first | (with_reducible first | exact HB.out | apply below_alloc | apply pw_below_drewN | apply below_drew1 | refine below_set ?_ GE150.out | refine below_set ?_ GE157.out | refine below_set ?_ GE166.out) | exact HB.out))) : w.heap.size ≤ gb167)); have n9_ := Aside0.mk ((by rw [hg]; exact Nat.ne_of_lt (blk_lt (g := gb150) (o := .cells #[.int .i64 0, .int .u64 0, .slice none 0 0] 25 (0, 0)) (by (with_reducible repeat (first | refine blk_drewN ?_ _ | refine blk_drew ?_ | refine blk_alloc ?_ _)); exact BK150.out)) : gb150 ≠ gb167)); have n10_ := Aside0.mk ((by rw [hg]; exact Nat.ne_of_gt (blk_lt (g := gb150) (o := .cells #[.int .i64 0, .int .u64 0, .slice none 0 0] 25 (0, 0)) (by (with_reducible repeat (first | refine blk_drewN ?_ _ | refine blk_drew ?_ | refine blk_alloc ?_ _)); exact BK150.out)) : gb167 ≠ gb150)); have n11_ := Aside0.mk ((by rw [hg]; exact Nat.ne_of_lt (blk_lt (g := gb157) (o := .cells #[.int .i64 t151, .int .u64 t152, .slice Ao16 t153.length co16] 25 (0, 0)) (by (with_reducible repeat (first | refine blk_drewN ?_ _ | refine blk_drew ?_ | refine blk_alloc ?_ _)); exact BK157.out)) : gb157 ≠ gb167)); have n12_ := Aside0.mk ((by rw [hg]; exact Nat.ne_of_gt (blk_lt (g := gb157) (o := .cells #[.int .i64 t151, .int .u64 t152, .slice Ao16 t153.length co16] 25 (0, 0)) (by (with_reducible repeat (first | refine blk_drewN ?_ _ | refine blk_drew ?_ | refine blk_alloc ?_ _)); exact BK157.out)) : gb167 ≠ gb157)); have n13_ := Aside0.mk ((by rw [hg]; exact Nat.ne_of_lt (blk_lt (g := gb166) (o := .cells #[.int .i64 0, .int .u64 0, .slice none 0 0] 25 (0, 0)) (by (with_reducible repeat (first | refine blk_drewN ?_ _ | refine blk_drew ?_ | refine blk_alloc ?_ _)); exact BK166.out)) : gb166 ≠ gb167)); have n14_ := Aside0.mk ((by rw [hg]; exact Nat.ne_of_gt (blk_lt (g := gb166) (o := .cells #[.int .i64 0, .int .u64 0, .slice none 0 0] 25 (0, 0)) (by (with_reducible repeat (first | refine blk_drewN ?_ _ | refine blk_drew ?_ | refine blk_alloc ?_ _)); exact BK166.out)) : gb167 ≠ gb166)); clear HO155; clear HO162; clear BK150; clear BK157; clear BK166; clear HB; have HO155 := n0_; have HO162 := n1_; have BK150 := n2_; have BK157 := n3_; have BK166 := n4_; have HB := n5_; have BK167 := n6_; have GW167 := n7_; have GE167 := n8_; have NB150_167 := n9_; have NB167_150 := n10_; have NB157_167 := n11_; have NB167_157 := n12_; have NB166_167 := n13_; have NB167_166 := n14_; clear n0_ n1_ n2_ n3_ n4_ n5_ n6_ n7_ n8_ n9_ n10_ n11_ n12_ n13_ n14_; clear hb hbox hg; have hnb20 := NB166_150.out; have hnc20 := NB150_166.out; have hnb21 := NB166_157.out; have hnc21 := NB157_166.out; have hnb22 := NB166_167.out; have hnc22 := NB167_166.out; have hcz23_0 : w19.cell? ⟨gb166, 0, none⟩ = some (.int .i64 0) := (blk_cell BK166.out 0).trans rfl; have hcz23_1 : w19.cell? ⟨gb166, 1, none⟩ = some (.int .u64 0) := (blk_cell BK166.out 1).trans rfl; have hcz23_2 : w19.cell? ⟨gb166, 2, none⟩ = some (.slice none 0 0) := (blk_cell BK166.out 2).trans rfl; have hfz23_0 := blk_frozen BK166.out 0; have hfz23_1 := blk_frozen BK166.out 1; have hfz23_2 := blk_frozen BK166.out 2; obtain ⟨Ao24, co24, eo24⟩ := Kd.R_slice HO162.out; subst eo24; have hnb25 := NB167_150.out; have hnc25 := NB150_167.out; have hnb26 := NB167_157.out; have hnc26 := NB157_167.out; have hcz27_0 : w19.cell? ⟨gb167, 0, none⟩ = some (.int .u64 0) := (blk_cell BK167.out 0).trans rfl; have hcz27_1 : w19.cell? ⟨gb167, 1, none⟩ = some (.int .i64 0) := (blk_cell BK167.out 1).trans rfl; have hfz27_0 := blk_frozen BK167.out 0; have hfz27_1 := blk_frozen BK167.out 1) | ((with_reducible refine gate_callee (f := 12) rfl ?_); refine goesL_ (some 22) rfl rfl Try.func12 (by kernel_rfl) rfl #[.agg #[.int .i64 t158, .int .u64 t159, .slice Ao24 t160.length co24], .int .i64 9] rfl (by (try simp only [List.map_toArray, List.map_cons, List.map_nil]); first | done | rfl | (simp only [List.length_drop, List.length_take]; rfl)) ?_; (with_reducible refine (ring_Put.calls t158 t159 _ _ t160 9 t168 t169 t170 t173 t174 _ ?side1 ?side2 A3.out).mono ?_); (case side1 => refine (Kd.R_reads' (e := 35) (base := w.heap.size) (ok := fun k_ => (True ∧ k_ ≠ gb167)) (n := t160.length) (c := co24) ?_).2.2; exact (by (with_reducible repeat (first | apply Kd.R_alloc | apply Kd.R_drewN | apply Kd.R_drew)); exact (Kd.R_mono (Kd.R_mono (Kd.R_far (p := ⟨gb167, 1, none⟩) (Kd.R_far (p := ⟨gb167, 0, none⟩) (Kd.R_far (p := ⟨gb166, 2, none⟩) (Kd.R_far (p := ⟨gb166, 1, none⟩) (Kd.R_far (p := ⟨gb166, 0, none⟩) (Kd.R_mono (Kd.R_types HO162.out BK166.out (by decide)) (fun k_ hk => (⟨hk, hk.1.2⟩ : _ ∧ k_ ≠ gb167))) (fun _ hk => hk.1.2) (.int .i64 t158)) (fun _ hk => hk.1.2) (.int .u64 t159)) (fun _ hk => hk.1.2) (.slice Ao24 t160.length co24)) (fun _ hk => hk.2) (.int .u64 t163)) (fun _ hk => hk.2) (.int .i64 t164)) (fun _ h_ => h_.1)) (fun _ h_ => h_.1)))); (case side2 => exact (Kd.R_reads' HO162.out).2.1); rintro e w28 ⟨v171, rfl, ho0, hb⟩; refine ⟨_, rfl, ?_⟩; have n0_ := Aside0.mk (Kd.V_elder' (by (with_reducible repeat (first | apply Kd.V_alloc | apply Kd.V_drewN | apply Kd.V_drew)); exact (Kd.V_mono (Kd.V_mono (Kd.V_far (p := ⟨gb167, 1, none⟩) (Kd.V_far (p := ⟨gb167, 0, none⟩) (Kd.V_far (p := ⟨gb166, 2, none⟩) (Kd.V_far (p := ⟨gb166, 1, none⟩) (Kd.V_far (p := ⟨gb166, 0, none⟩) (Kd.V_mono (Kd.V_mono HO155.out (fun k_ hk => (⟨hk, hk.1.2⟩ : _ ∧ k_ ≠ gb166))) (fun k_ hk => (⟨hk, hk.1.2⟩ : _ ∧ k_ ≠ gb167))) (fun _ hk => hk.1.2) (.int .i64 t158)) (fun _ hk => hk.1.2) (.int .u64 t159)) (fun _ hk => hk.1.2) (.slice Ao24 t160.length co24)) (fun _ hk => hk.2) (.int .u64 t163)) (fun _ hk => hk.2) (.int .i64 t164)) (fun _ h_ => h_.1)) (fun _ h_ => h_.1))) (Kd.R_base ho0) hb); have n1_ := Aside0.mk (Kd.R_elder' (by (with_reducible repeat (first | apply Kd.R_alloc | apply Kd.R_drewN | apply Kd.R_drew)); exact (Kd.R_mono (Kd.R_mono (Kd.R_far (p := ⟨gb167, 1, none⟩) (Kd.R_far (p := ⟨gb167, 0, none⟩) (Kd.R_far (p := ⟨gb166, 2, none⟩) (Kd.R_far (p := ⟨gb166, 1, none⟩) (Kd.R_far (p := ⟨gb166, 0, none⟩) (Kd.R_mono (Kd.R_types HO162.out BK166.out (by decide)) (fun k_ hk => (⟨hk, hk.1.2⟩ : _ ∧ k_ ≠ gb167))) (fun _ hk => hk.1.2) (.int .i64 t158)) (fun _ hk => hk.1.2) (.int .u64 t159)) (fun _ hk => hk.1.2) (.slice Ao24 t160.length co24)) (fun _ hk => hk.2) (.int .u64 t163)) (fun _ hk => hk.2) (.int .i64 t164)) (fun _ h_ => h_.1)) (fun _ h_ => h_.1))) (Kd.R_base ho0) hb); have n2_ := Aside0.mk (Kd.R_lower (Kd.R_newB (Kd.R_new' ho0 (Kd.R_lt (by (with_reducible repeat (first | apply Kd.R_alloc | apply Kd.R_drewN | apply Kd.R_drew)); exact (Kd.R_mono (Kd.R_mono (Kd.R_far (p := ⟨gb167, 1, none⟩) (Kd.R_far (p := ⟨gb167, 0, none⟩) (Kd.R_far (p := ⟨gb166, 2, none⟩) (Kd.R_far (p := ⟨gb166, 1, none⟩) (Kd.R_far (p := ⟨gb166, 0, none⟩) (Kd.R_mono (Kd.R_types HO162.out BK166.out (by decide)) (fun k_ hk => (⟨hk, hk.1.2⟩ : _ ∧ k_ ≠ gb167))) (fun _ hk => hk.1.2) (.int .i64 t158)) (fun _ hk => hk.1.2) (.int .u64 t159)) (fun _ hk => hk.1.2) (.slice Ao24 t160.length co24)) (fun _ hk => hk.2) (.int .u64 t163)) (fun _ hk => hk.2) (.int .i64 t164)) (fun _ h_ => h_.1)) (fun _ h_ => h_.1))))) (g := gb167) (o := .cells #[.int .u64 t163, .int .i64 t164] 35 (0, 0)) (by (with_reducible repeat (first | refine blk_drewN ?_ _ | refine blk_drew ?_ | refine blk_alloc ?_ _)); refine blk_put (cs := #[.int .u64 t163, .int .i64 0]) ?_ 1 _ rfl; (with_reducible repeat (first | refine blk_drewN ?_ _ | refine blk_drew ?_ | refine blk_alloc ?_ _)); refine blk_put (cs := #[.int .u64 0, .int .i64 0]) ?_ 0 _ rfl; (with_reducible repeat (first | refine blk_drewN ?_ _ | refine blk_drew ?_ | refine blk_alloc ?_ _)); refine blk_far ?_ NB167_166.out _; (with_reducible repeat (first | refine blk_drewN ?_ _ | refine blk_drew ?_ | refine blk_alloc ?_ _)); refine blk_far ?_ NB167_166.out _; (with_reducible repeat (first | refine blk_drewN ?_ _ | refine blk_drew ?_ | refine blk_alloc ?_ _)); refine blk_far ?_ NB167_166.out _; (with_reducible repeat (first | refine blk_drewN ?_ _ | refine blk_drew ?_ | refine blk_alloc ?_ _)); exact BK167.out)) (below_size (by repeat (first | (with_reducible first | exact HB.out | apply below_alloc | apply pw_below_drewN | apply below_drew1 | refine below_set ?_ GE150.out | refine below_set ?_ GE157.out | refine below_set ?_ GE166.out | refine below_set ?_ GE167.out) | exact HB.out)))); have n3_ := Aside0.mk (blk_below (g := gb150) (o := .cells #[.int .i64 0, .int .u64 0, .slice none 0 0] 25 (0, 0)) (by (with_reducible repeat (first | refine blk_drewN ?_ _ | refine blk_drew ?_ | refine blk_alloc ?_ _)); refine blk_far ?_ NB150_167.out _; (with_reducible repeat (first | refine blk_drewN ?_ _ | refine blk_drew ?_ | refine blk_alloc ?_ _)); refine blk_far ?_ NB150_167.out _; (with_reducible repeat (first | refine blk_drewN ?_ _ | refine blk_drew ?_ | refine blk_alloc ?_ _)); refine blk_far ?_ NB150_166.out _; (with_reducible repeat (first | refine blk_drewN ?_ _ | refine blk_drew ?_ | refine blk_alloc ?_ _)); refine blk_far ?_ NB150_166.out _; (with_reducible repeat (first | refine blk_drewN ?_ _ | refine blk_drew ?_ | refine blk_alloc ?_ _)); refine blk_far ?_ NB150_166.out _; (with_reducible repeat (first | refine blk_drewN ?_ _ | refine blk_drew ?_ | refine blk_alloc ?_ _)); exact BK150.out) hb); have n4_ := Aside0.mk (blk_below (g := gb157) (o := .cells #[.int .i64 t151, .int .u64 t152, .slice Ao16 t153.length co16] 25 (0, 0)) (by (with_reducible repeat (first | refine blk_drewN ?_ _ | refine blk_drew ?_ | refine blk_alloc ?_ _)); refine blk_far ?_ NB157_167.out _; (with_reducible repeat (first | refine blk_drewN ?_ _ | refine blk_drew ?_ | refine blk_alloc ?_ _)); refine blk_far ?_ NB157_167.out _; (with_reducible repeat (first | refine blk_drewN ?_ _ | refine blk_drew ?_ | refine blk_alloc ?_ _)); refine blk_far ?_ NB157_166.out _; (with_reducible repeat (first | refine blk_drewN ?_ _ | refine blk_drew ?_ | refine blk_alloc ?_ _)); refine blk_far ?_ NB157_166.out _; (with_reducible repeat (first | refine blk_drewN ?_ _ | refine blk_drew ?_ | refine blk_alloc ?_ _)); refine blk_far ?_ NB157_166.out _; (with_reducible repeat (first | refine blk_drewN ?_ _ | refine blk_drew ?_ | refine blk_alloc ?_ _)); exact BK157.out) hb); have n5_ := Aside0.mk (blk_below (g := gb166) (o := .cells #[.int .i64 t158, .int .u64 t159, .slice Ao24 t160.length co24] 25 (0, 0)) (by (with_reducible repeat (first | refine blk_drewN ?_ _ | refine blk_drew ?_ | refine blk_alloc ?_ _)); refine blk_far ?_ NB166_167.out _; (with_reducible repeat (first | refine blk_drewN ?_ _ | refine blk_drew ?_ | refine blk_alloc ?_ _)); refine blk_far ?_ NB166_167.out _; (with_reducible repeat (first | refine blk_drewN ?_ _ | refine blk_drew ?_ | refine blk_alloc ?_ _)); refine blk_put (cs := #[.int .i64 t158, .int .u64 t159, .slice none 0 0]) ?_ 2 _ rfl; (with_reducible repeat (first | refine blk_drewN ?_ _ | refine blk_drew ?_ | refine blk_alloc ?_ _)); refine blk_put (cs := #[.int .i64 t158, .int .u64 0, .slice none 0 0]) ?_ 1 _ rfl; (with_reducible repeat (first | refine blk_drewN ?_ _ | refine blk_drew ?_ | refine blk_alloc ?_ _)); refine blk_put (cs := #[.int .i64 0, .int .u64 0, .slice none 0 0]) ?_ 0 _ rfl; (with_reducible repeat (first | refine blk_drewN ?_ _ | refine blk_drew ?_ | refine blk_alloc ?_ _)); exact BK166.out) hb); have n6_ := Aside0.mk (blk_below (g := gb167) (o := .cells #[.int .u64 t163, .int .i64 t164] 35 (0, 0)) (by (with_reducible repeat (first | refine blk_drewN ?_ _ | refine blk_drew ?_ | refine blk_alloc ?_ _)); refine blk_put (cs := #[.int .u64 t163, .int .i64 0]) ?_ 1 _ rfl; (with_reducible repeat (first | refine blk_drewN ?_ _ | refine blk_drew ?_ | refine blk_alloc ?_ _)); refine blk_put (cs := #[.int .u64 0, .int .i64 0]) ?_ 0 _ rfl; (with_reducible repeat (first | refine blk_drewN ?_ _ | refine blk_drew ?_ | refine blk_alloc ?_ _)); refine blk_far ?_ NB167_166.out _; (with_reducible repeat (first | refine blk_drewN ?_ _ | refine blk_drew ?_ | refine blk_alloc ?_ _)); refine blk_far ?_ NB167_166.out _; (with_reducible repeat (first | refine blk_drewN ?_ _ | refine blk_drew ?_ | refine blk_alloc ?_ _)); refine blk_far ?_ NB167_166.out _; (with_reducible repeat (first | refine blk_drewN ?_ _ | refine blk_drew ?_ | refine blk_alloc ?_ _)); exact BK167.out) hb); have n7_ := Aside0.mk (below_step (by repeat (first | (with_reducible first | exact HB.out | apply below_alloc | apply pw_below_drewN | apply below_drew1 | refine below_set ?_ GE150.out | refine below_set ?_ GE157.out | refine below_set ?_ GE166.out | refine below_set ?_ GE167.out) | exact HB.out)) hb); clear HO155; clear HO162; clear BK150; clear BK157; clear BK166; clear BK167; clear HB; have HO155 := n0_; have HO162 := n1_; have HO172 := n2_; have BK150 := n3_; have BK157 := n4_; have BK166 := n5_; have BK167 := n6_; have HB := n7_; clear n0_ n1_ n2_ n3_ n4_ n5_ n6_ n7_; (try clear hb); (try clear hb2); (try clear hk); (try clear hi); (try clear ho0)) | ((with_reducible refine gate_dst (N := 7) rfl ?_); (try (refine gate_guard (by rfl) ?_; dsimp only)); refine box_event ?hg (N := 7) ?hd (cs := #[.int .i64 0, .int .u64 0, .slice none 0 0]) (t := 25) ?hr ?_; (case hd => rfl); (case hg => rfl); (case hr => first | (go_simp; done) | (go_simp; rfl)); intro gb175 hg w29 hbox hb; have n0_ := Aside0.mk (Kd.V_below (Kd.V_elderB (by (with_reducible repeat (first | apply Kd.V_alloc | apply Kd.V_drewN | apply Kd.V_drew)); exact HO155.out) gb175 (Nat.le_of_eq hg.symm)) hb); have n1_ := Aside0.mk (Kd.R_below (by (with_reducible repeat (first | apply Kd.R_alloc | apply Kd.R_drewN | apply Kd.R_drew)); exact HO162.out) hb); have n2_ := Aside0.mk (Kd.R_below (by (with_reducible repeat (first | apply Kd.R_alloc | apply Kd.R_drewN | apply Kd.R_drew)); exact HO172.out) hb); have n3_ := Aside0.mk (blk_below (g := gb150) (o := .cells #[.int .i64 0, .int .u64 0, .slice none 0 0] 25 (0, 0)) (by (with_reducible repeat (first | refine blk_drewN ?_ _ | refine blk_drew ?_ | refine blk_alloc ?_ _)); exact BK150.out) hb); have n4_ := Aside0.mk (blk_below (g := gb157) (o := .cells #[.int .i64 t151, .int .u64 t152, .slice Ao16 t153.length co16] 25 (0, 0)) (by (with_reducible repeat (first | refine blk_drewN ?_ _ | refine blk_drew ?_ | refine blk_alloc ?_ _)); exact BK157.out) hb); have n5_ := Aside0.mk (blk_below (g := gb166) (o := .cells #[.int .i64 t158, .int .u64 t159, .slice Ao24 t160.length co24] 25 (0, 0)) (by (with_reducible repeat (first | refine blk_drewN ?_ _ | refine blk_drew ?_ | refine blk_alloc ?_ _)); exact BK166.out) hb); have n6_ := Aside0.mk (blk_below (g := gb167) (o := .cells #[.int .u64 t163, .int .i64 t164] 35 (0, 0)) (by (with_reducible repeat (first | refine blk_drewN ?_ _ | refine blk_drew ?_ | refine blk_alloc ?_ _)); exact BK167.out) hb); have n7_ := Aside0.mk (below_step (by repeat (first | (with_reducible first | exact HB.out | apply below_alloc | apply pw_below_drewN | apply below_drew1 | refine below_set ?_ GE150.out | refine below_set ?_ GE157.out | refine below_set ?_ GE166.out | refine below_set ?_ GE167.out) | exact HB.out)) hb); have n8_ := Aside0.mk (hbox); have n9_ := Aside0.mk ((by rw [hg]; exact (below_size (by repeat (first | (with_reducible first | exact HB.out | apply below_alloc | apply pw_below_drewN | apply below_drew1 | refine below_set ?_ GE150.out | refine below_set ?_ GE157.out | refine below_set ?_ GE166.out | refine below_set ?_ GE167.out) | exact HB.out))) : w.heap.size ≤ gb175)); have n10_ := Aside0.mk ((by rw [hg]; exact (below_size (by repeat (first | (with_reducible first | exact HB.out | apply below_alloc | apply pw_below_drewN | apply below_drew1 | refine below_set ?_ GE150.out | refine below_set ?_ GE157.out | refine below_set ?_ GE166.out | refine below_set ?_ GE167.out) | exact HB.out))) : w.heap.size ≤ gb175)); have n11_ := Aside0.mk ((by rw [hg]; exact Nat.ne_of_lt (blk_lt (g := gb150) (o := .cells #[.int .i64 0, .int .u64 0, .slice none 0 0] 25 (0, 0)) (by (with_reducible repeat (first | refine blk_drewN ?_ _ | refine blk_drew ?_ | refine blk_alloc ?_ _)); exact BK150.out)) : gb150 ≠ gb175)); have n12_ := Aside0.mk ((by rw [hg]; exact Nat.ne_of_gt (blk_lt (g := gb150) (o := .cells #[.int .i64 0, .int .u64 0, .slice none 0 0] 25 (0, 0)) (by (with_reducible repeat (first | refine blk_drewN ?_ _ | refine blk_drew ?_ | refine blk_alloc ?_ _)); exact BK150.out)) : gb175 ≠ gb150)); have n13_ := Aside0.mk ((by rw [hg]; exact Nat.ne_of_lt (blk_lt (g := gb157) (o := .cells #[.int .i64 t151, .int .u64 t152, .slice Ao16 t153.length co16] 25 (0, 0)) (by (with_reducible repeat (first | refine blk_drewN ?_ _ | refine blk_drew ?_ | refine blk_alloc ?_ _)); exact BK157.out)) : gb157 ≠ gb175)); have n14_ := Aside0.mk ((by rw [hg]; exact Nat.ne_of_gt (blk_lt (g := gb157) (o := .cells #[.int .i64 t151, .int .u64 t152, .slice Ao16 t153.length co16] 25 (0, 0)) (by (with_reducible repeat (first | refine blk_drewN ?_ _ | refine blk_drew ?_ | refine blk_alloc ?_ _)); exact BK157.out)) : gb175 ≠ gb157)); have n15_ := Aside0.mk ((by rw [hg]; exact Nat.ne_of_lt (blk_lt (g := gb166) (o := .cells #[.int .i64 t158, .int .u64 t159, .slice Ao24 t160.length co24] 25 (0, 0)) (by (with_reducible repeat (first | refine blk_drewN ?_ _ | refine blk_drew ?_ | refine blk_alloc ?_ _)); exact BK166.out)) : gb166 ≠ gb175)); have n16_ := Aside0.mk ((by rw [hg]; exact Nat.ne_of_gt (blk_lt (g := gb166) (o := .cells #[.int .i64 t158, .int .u64 t159, .slice Ao24 t160.length co24] 25 (0, 0)) (by (with_reducible repeat (first | refine blk_drewN ?_ _ | refine blk_drew ?_ | refine blk_alloc ?_ _)); exact BK166.out)) : gb175 ≠ gb166)); have n17_ := Aside0.mk ((by rw [hg]; exact Nat.ne_of_lt (blk_lt (g := gb167) (o := .cells #[.int .u64 t163, .int .i64 t164] 35 (0, 0)) (by (with_reducible repeat (first | refine blk_drewN ?_ _ | refine blk_drew ?_ | refine blk_alloc ?_ _)); exact BK167.out)) : gb167 ≠ gb175)); have n18_ := Aside0.mk ((by rw [hg]; exact Nat.ne_of_gt (blk_lt (g := gb167) (o := .cells #[.int .u64 t163, .int .i64 t164] 35 (0, 0)) (by (with_reducible repeat (first | refine blk_drewN ?_ _ | refine blk_drew ?_ | refine blk_alloc ?_ _)); exact BK167.out)) : gb175 ≠ gb167)); clear HO155; clear HO162; clear HO172; clear BK150; clear BK157; clear BK166; clear BK167; clear HB; have HO155 := n0_; have HO162 := n1_; have HO172 := n2_; have BK150 := n3_; have BK157 := n4_; have BK166 := n5_; have BK167 := n6_; have HB := n7_; have BK175 := n8_; have GW175 := n9_; have GE175 := n10_; have NB150_175 := n11_; have NB175_150 := n12_; have NB157_175 := n13_; have NB175_157 := n14_; have NB166_175 := n15_; have NB175_166 := n16_; have NB167_175 := n17_; have NB175_167 := n18_; clear n0_ n1_ n2_ n3_ n4_ n5_ n6_ n7_ n8_ n9_ n10_ n11_ n12_ n13_ n14_ n15_ n16_ n17_ n18_; clear hb hbox hg; have hnb30 := NB175_150.out; have hnc30 := NB150_175.out; have hnb31 := NB175_157.out; have hnc31 := NB157_175.out; have hnb32 := NB175_166.out; have hnc32 := NB166_175.out; have hnb33 := NB175_167.out; have hnc33 := NB167_175.out; have hcz34_0 : w29.cell? ⟨gb175, 0, none⟩ = some (.int .i64 0) := (blk_cell BK175.out 0).trans rfl; have hcz34_1 : w29.cell? ⟨gb175, 1, none⟩ = some (.int .u64 0) := (blk_cell BK175.out 1).trans rfl; have hcz34_2 : w29.cell? ⟨gb175, 2, none⟩ = some (.slice none 0 0) := (blk_cell BK175.out 2).trans rfl; have hfz34_0 := blk_frozen BK175.out 0; have hfz34_1 := blk_frozen BK175.out 1; have hfz34_2 := blk_frozen BK175.out 2; obtain ⟨Ao35, co35, eo35⟩ := Kd.R_slice HO172.out; subst eo35))
            have n0_ : Aside0 (Kd.V k35 35 (((w29.setCell ⟨gb175, 0, none⟩ (.int .i64 t168)).setCell ⟨gb175, 1, none⟩ (.int .u64 t169)).setCell ⟨gb175, 2, none⟩ (.slice Ao35 t170.length co35)) w.heap.size (fun k_ => some k_ ≠ (.slice Ao24 t160.length co24 : Value).ownBlock ∧ some k_ ≠ (.slice Ao35 t170.length co35 : Value).ownBlock ∧ k_ ≠ gb150 ∧ k_ ≠ gb157 ∧ k_ ≠ gb166 ∧ k_ ≠ gb167 ∧ k_ ≠ gb175) (.slice Ao16 t153.length co16) t153) := ⟨by (with_reducible repeat (first | apply Kd.V_alloc | apply Kd.V_drewN | apply Kd.V_drew)); exact Kd.V_mono (Kd.V_far (p := ⟨gb175, 2, none⟩) (Kd.V_far (p := ⟨gb175, 1, none⟩) (Kd.V_far (p := ⟨gb175, 0, none⟩) (Kd.V_mono HO155.out (fun k_ hk => (⟨hk, hk.2⟩ : _ ∧ k_ ≠ gb175))) (fun _ hk => hk.2) (.int .i64 t168)) (fun _ hk => hk.2) (.int .u64 t169)) (fun _ hk => hk.2) (.slice Ao35 t170.length co35)) (fun _ hk => ⟨hk.1.1.1.1.1.2, ⟨hk.1.1.2, ⟨hk.1.1.1.1.1.1.1, ⟨hk.1.1.1.1.1.1.2, ⟨hk.1.1.1.1.2, ⟨hk.1.1.1.2, hk.1.2⟩⟩⟩⟩⟩⟩)⟩
            have n1_ : Aside0 (Kd.R k35 35 (((w29.setCell ⟨gb175, 0, none⟩ (.int .i64 t168)).setCell ⟨gb175, 1, none⟩ (.int .u64 t169)).setCell ⟨gb175, 2, none⟩ (.slice Ao35 t170.length co35)) w.heap.size (fun k_ => some k_ ≠ (.slice Ao35 t170.length co35 : Value).ownBlock ∧ k_ ≠ gb167) (.slice Ao24 t160.length co24) t160) := ⟨by (with_reducible repeat (first | apply Kd.R_alloc | apply Kd.R_drewN | apply Kd.R_drew)); exact Kd.R_mono (Kd.R_far (p := ⟨gb175, 2, none⟩) (Kd.R_far (p := ⟨gb175, 1, none⟩) (Kd.R_far (p := ⟨gb175, 0, none⟩) (Kd.R_types HO162.out BK175.out (by decide)) (fun _ hk => hk.2) (.int .i64 t168)) (fun _ hk => hk.2) (.int .u64 t169)) (fun _ hk => hk.2) (.slice Ao35 t170.length co35)) (fun _ hk => ⟨hk.1.2, hk.1.1.2⟩)⟩
            have n2_ : Aside0 (Kd.R k35 35 (((w29.setCell ⟨gb175, 0, none⟩ (.int .i64 t168)).setCell ⟨gb175, 1, none⟩ (.int .u64 t169)).setCell ⟨gb175, 2, none⟩ (.slice Ao35 t170.length co35)) w.heap.size (fun k_ => some k_ ≠ (.slice Ao24 t160.length co24 : Value).ownBlock ∧ k_ ≠ gb167) (.slice Ao35 t170.length co35) t170) := ⟨by (with_reducible repeat (first | apply Kd.R_alloc | apply Kd.R_drewN | apply Kd.R_drew)); exact Kd.R_mono (Kd.R_far (p := ⟨gb175, 2, none⟩) (Kd.R_far (p := ⟨gb175, 1, none⟩) (Kd.R_far (p := ⟨gb175, 0, none⟩) (Kd.R_types HO172.out BK175.out (by decide)) (fun _ hk => hk.2) (.int .i64 t168)) (fun _ hk => hk.2) (.int .u64 t169)) (fun _ hk => hk.2) (.slice Ao35 t170.length co35)) (fun _ hk => ⟨hk.1.1.2, hk.1.2⟩)⟩
            have n3_ : Aside0 ((((w29.setCell ⟨gb175, 0, none⟩ (.int .i64 t168)).setCell ⟨gb175, 1, none⟩ (.int .u64 t169)).setCell ⟨gb175, 2, none⟩ (.slice Ao35 t170.length co35)).heap[gb150]? = some (.cells #[.int .i64 0, .int .u64 0, .slice none 0 0] 25 (0, 0))) := ⟨by (with_reducible repeat (first | refine blk_drewN ?_ _ | refine blk_drew ?_ | refine blk_alloc ?_ _)); refine blk_far ?_ NB150_175.out _; (with_reducible repeat (first | refine blk_drewN ?_ _ | refine blk_drew ?_ | refine blk_alloc ?_ _)); refine blk_far ?_ NB150_175.out _; (with_reducible repeat (first | refine blk_drewN ?_ _ | refine blk_drew ?_ | refine blk_alloc ?_ _)); refine blk_far ?_ NB150_175.out _; (with_reducible repeat (first | refine blk_drewN ?_ _ | refine blk_drew ?_ | refine blk_alloc ?_ _)); exact BK150.out⟩
            have n4_ : Aside0 ((((w29.setCell ⟨gb175, 0, none⟩ (.int .i64 t168)).setCell ⟨gb175, 1, none⟩ (.int .u64 t169)).setCell ⟨gb175, 2, none⟩ (.slice Ao35 t170.length co35)).heap[gb157]? = some (.cells #[.int .i64 t151, .int .u64 t152, .slice Ao16 t153.length co16] 25 (0, 0))) := ⟨by (with_reducible repeat (first | refine blk_drewN ?_ _ | refine blk_drew ?_ | refine blk_alloc ?_ _)); refine blk_far ?_ NB157_175.out _; (with_reducible repeat (first | refine blk_drewN ?_ _ | refine blk_drew ?_ | refine blk_alloc ?_ _)); refine blk_far ?_ NB157_175.out _; (with_reducible repeat (first | refine blk_drewN ?_ _ | refine blk_drew ?_ | refine blk_alloc ?_ _)); refine blk_far ?_ NB157_175.out _; (with_reducible repeat (first | refine blk_drewN ?_ _ | refine blk_drew ?_ | refine blk_alloc ?_ _)); exact BK157.out⟩
            have n5_ : Aside0 ((((w29.setCell ⟨gb175, 0, none⟩ (.int .i64 t168)).setCell ⟨gb175, 1, none⟩ (.int .u64 t169)).setCell ⟨gb175, 2, none⟩ (.slice Ao35 t170.length co35)).heap[gb166]? = some (.cells #[.int .i64 t158, .int .u64 t159, .slice Ao24 t160.length co24] 25 (0, 0))) := ⟨by (with_reducible repeat (first | refine blk_drewN ?_ _ | refine blk_drew ?_ | refine blk_alloc ?_ _)); refine blk_far ?_ NB166_175.out _; (with_reducible repeat (first | refine blk_drewN ?_ _ | refine blk_drew ?_ | refine blk_alloc ?_ _)); refine blk_far ?_ NB166_175.out _; (with_reducible repeat (first | refine blk_drewN ?_ _ | refine blk_drew ?_ | refine blk_alloc ?_ _)); refine blk_far ?_ NB166_175.out _; (with_reducible repeat (first | refine blk_drewN ?_ _ | refine blk_drew ?_ | refine blk_alloc ?_ _)); exact BK166.out⟩
            have n6_ : Aside0 ((((w29.setCell ⟨gb175, 0, none⟩ (.int .i64 t168)).setCell ⟨gb175, 1, none⟩ (.int .u64 t169)).setCell ⟨gb175, 2, none⟩ (.slice Ao35 t170.length co35)).heap[gb167]? = some (.cells #[.int .u64 t163, .int .i64 t164] 35 (0, 0))) := ⟨by (with_reducible repeat (first | refine blk_drewN ?_ _ | refine blk_drew ?_ | refine blk_alloc ?_ _)); refine blk_far ?_ NB167_175.out _; (with_reducible repeat (first | refine blk_drewN ?_ _ | refine blk_drew ?_ | refine blk_alloc ?_ _)); refine blk_far ?_ NB167_175.out _; (with_reducible repeat (first | refine blk_drewN ?_ _ | refine blk_drew ?_ | refine blk_alloc ?_ _)); refine blk_far ?_ NB167_175.out _; (with_reducible repeat (first | refine blk_drewN ?_ _ | refine blk_drew ?_ | refine blk_alloc ?_ _)); exact BK167.out⟩
            have n7_ : Aside0 ((((w29.setCell ⟨gb175, 0, none⟩ (.int .i64 t168)).setCell ⟨gb175, 1, none⟩ (.int .u64 t169)).setCell ⟨gb175, 2, none⟩ (.slice Ao35 t170.length co35)).heap[gb175]? = some (.cells #[.int .i64 t168, .int .u64 t169, .slice Ao35 t170.length co35] 25 (0, 0))) := ⟨by (with_reducible repeat (first | refine blk_drewN ?_ _ | refine blk_drew ?_ | refine blk_alloc ?_ _)); refine blk_put (cs := #[.int .i64 t168, .int .u64 t169, .slice none 0 0]) ?_ 2 _ rfl; (with_reducible repeat (first | refine blk_drewN ?_ _ | refine blk_drew ?_ | refine blk_alloc ?_ _)); refine blk_put (cs := #[.int .i64 t168, .int .u64 0, .slice none 0 0]) ?_ 1 _ rfl; (with_reducible repeat (first | refine blk_drewN ?_ _ | refine blk_drew ?_ | refine blk_alloc ?_ _)); refine blk_put (cs := #[.int .i64 0, .int .u64 0, .slice none 0 0]) ?_ 0 _ rfl; (with_reducible repeat (first | refine blk_drewN ?_ _ | refine blk_drew ?_ | refine blk_alloc ?_ _)); exact BK175.out⟩
            have n8_ : Aside0 (Below w.heap.size w (((w29.setCell ⟨gb175, 0, none⟩ (.int .i64 t168)).setCell ⟨gb175, 1, none⟩ (.int .u64 t169)).setCell ⟨gb175, 2, none⟩ (.slice Ao35 t170.length co35))) := ⟨by repeat (first | (with_reducible first | exact HB.out | apply below_alloc | apply pw_below_drewN | apply below_drew1 | refine below_set ?_ GE150.out | refine below_set ?_ GE157.out | refine below_set ?_ GE166.out | refine below_set ?_ GE167.out | refine below_set ?_ GE175.out) | exact HB.out)⟩
            (try clear HO155)
            (try clear HO162)
            (try clear HO172)
            (try clear BK150)
            (try clear BK157)
            (try clear BK166)
            (try clear BK167)
            (try clear BK175)
            (try clear HB)
            generalize (((w29.setCell ⟨gb175, 0, none⟩ (.int .i64 t168)).setCell ⟨gb175, 1, none⟩ (.int .u64 t169)).setCell ⟨gb175, 2, none⟩ (.slice Ao35 t170.length co35)) = w36 at n0_ n1_ n2_ n3_ n4_ n5_ n6_ n7_ n8_ ⊢
            have HO155 := n0_
            have HO162 := n1_
            have HO172 := n2_
            have BK150 := n3_
            have BK157 := n4_
            have BK166 := n5_
            have BK167 := n6_
            have BK175 := n7_
            have HB := n8_
            clear n0_ n1_ n2_ n3_ n4_ n5_ n6_ n7_ n8_
            have n0_ := Aside0.mk (Kd.V_drew HO155.out)
            have n1_ := Aside0.mk (Kd.R_drew HO162.out)
            have n2_ := Aside0.mk (Kd.R_drew HO172.out)
            have n3_ := Aside0.mk (blk_drew BK150.out)
            have n4_ := Aside0.mk (blk_drew BK157.out)
            have n5_ := Aside0.mk (blk_drew BK166.out)
            have n6_ := Aside0.mk (blk_drew BK167.out)
            have n7_ := Aside0.mk (blk_drew BK175.out)
            have n8_ := Aside0.mk (below_drew1 HB.out)
            clear HO155
            clear HO162
            clear HO172
            clear BK150
            clear BK157
            clear BK166
            clear BK167
            clear BK175
            clear HB
            have HO155 := n0_
            have HO162 := n1_
            have HO172 := n2_
            have BK150 := n3_
            have BK157 := n4_
            have BK166 := n5_
            have BK167 := n6_
            have BK175 := n7_
            have HB := n8_
            clear n0_ n1_ n2_ n3_ n4_ n5_ n6_ n7_ n8_
            refine start_ (n := 28) (S := fun w' => w'.cell? ⟨gb175, 0, none⟩ = some (.int .i64 t168) ∧ w'.cell? ⟨gb175, 1, none⟩ = some (.int .u64 t169) ∧ w'.cell? ⟨gb175, 2, none⟩ = some (.slice Ao35 t170.length co35) ∧ w'.cell? ⟨gb167, 0, none⟩ = some (.int .u64 t163) ∧ w'.cell? ⟨gb167, 1, none⟩ = some (.int .i64 t164)) (ds := []) #[false, false, false, false, false, false, false, false, false, false, false, false, false, false, false, false, false, false, false, false, false, false, false, false, false, false, false, false] (by kernel_rfl) rfl rfl ⟨(blk_cell BK175.out 0).trans rfl, (blk_cell BK175.out 1).trans rfl, (blk_cell BK175.out 2).trans rfl, (blk_cell BK167.out 0).trans rfl, (blk_cell BK167.out 1).trans rfl⟩ (fun hHeld => ?_); refine with_tabW L05_after.tab4 L05_after.bits4 (fun HT_ HW_ => ?_)
            generalize w36.drew = w37 at HO155 HO162 HO172 BK150 BK157 BK166 BK167 BK175 HB hHeld ⊢
            refine pure_ (i := 1) (N := some 27) (v := ?_) (a' := ?_) #[false, true, false, false, false, false, false, false, false, false, false, false, false, false, false, false, false, false, false, false, false, false, false, false, false, false, false, false] rfl rfl (any_of HT_.out (by kernel_rfl)) (fun _ _ _ h => h) (Or.inl ⟨by rfl, ?_⟩) ?_ ?_
            rotate_left
            · intro w'
              go_simp
              with_reducible rfl
            rotate_left
            · simp only [Act.put, List.setIfInBounds_toArray, List.set_cons_zero, List.set_cons_succ, i64_w, i32_w]
              rfl
            refine pure_ (i := 2) (N := some 28) (v := ?_) (a' := ?_) #[false, true, true, false, false, false, false, false, false, false, false, false, false, false, false, false, false, false, false, false, false, false, false, false, false, false, false, false] rfl rfl (any_of HT_.out (by kernel_rfl)) (fun _ _ _ h => h) (Or.inl ⟨by rfl, ?_⟩) ?_ ?_
            rotate_left
            · intro w'
              go_simp
              with_reducible rfl
            rotate_left
            · simp only [Act.put, List.setIfInBounds_toArray, List.set_cons_zero, List.set_cons_succ, i64_w, i32_w]
              rfl
            refine pure_ (i := 3) (N := some 29) (v := ?_) (a' := ?_) #[false, true, true, true, false, false, false, false, false, false, false, false, false, false, false, false, false, false, false, false, false, false, false, false, false, false, false, false] rfl rfl (any_of HT_.out (by kernel_rfl)) (fun _ _ _ h => h) (Or.inl ⟨by rfl, ?_⟩) ?_ ?_
            rotate_left
            · intro w'
              go_simp
              with_reducible rfl
            rotate_left
            · simp only [Act.put, List.setIfInBounds_toArray, List.set_cons_zero, List.set_cons_succ, i64_w, i32_w]
              rfl
            refine pure_ (i := 4) (N := some 30) (v := ?_) (a' := ?_) #[false, true, true, true, true, false, false, false, false, false, false, false, false, false, false, false, false, false, false, false, false, false, false, false, false, false, false, false] rfl rfl (any_of HT_.out (by kernel_rfl)) (fun _ _ _ h => h) (Or.inl ⟨by rfl, ?_⟩) ?_ ?_
            rotate_left
            · intro w'
              go_simp
              with_reducible rfl
            rotate_left
            · simp only [Act.put, List.setIfInBounds_toArray, List.set_cons_zero, List.set_cons_succ, i64_w, i32_w]
              rfl
            refine pure_ (i := 5) (N := some 31) (v := ?_) (a' := ?_) #[false, true, true, true, true, true, false, false, false, false, false, false, false, false, false, false, false, false, false, false, false, false, false, false, false, false, false, false] rfl rfl (any_of HT_.out (by kernel_rfl)) (fun _ _ _ h => h) (Or.inl ⟨by rfl, ?_⟩) ?_ ?_
            rotate_left
            · intro w'
              go_simp
              with_reducible rfl
            rotate_left
            · simp only [Act.put, List.setIfInBounds_toArray, List.set_cons_zero, List.set_cons_succ, i64_w, i32_w]
              rfl
            refine pure_ (i := 6) (N := some 32) (v := ?_) (a' := ?_) #[false, true, true, true, true, true, true, false, false, false, false, false, false, false, false, false, false, false, false, false, false, false, false, false, false, false, false, false] rfl rfl (any_of HT_.out (by kernel_rfl)) (fun _ _ _ h => h) (Or.inl ⟨by rfl, ?_⟩) ?_ ?_
            rotate_left
            · intro w'
              go_simp
              with_reducible rfl
            rotate_left
            · simp only [Act.put, List.setIfInBounds_toArray, List.set_cons_zero, List.set_cons_succ, i64_w, i32_w]
              rfl
            refine pure_ (i := 8) (N := some 34) (v := ?_) (a' := ?_) #[false, true, true, true, true, true, true, false, true, false, false, false, false, false, false, false, false, false, false, false, false, false, false, false, false, false, false, false] rfl rfl (any_of HT_.out (by kernel_rfl)) (fun _ _ _ h => h) (Or.inl ⟨by rfl, ?_⟩) ?_ ?_
            rotate_left
            · intro w'
              go_simp
              with_reducible rfl
            rotate_left
            · simp only [Act.put, List.setIfInBounds_toArray, List.set_cons_zero, List.set_cons_succ, i64_w, i32_w]
              rfl
            refine take_ (i := 0) (N := some 26) (v := ?_) (a' := ?_) #[true, true, true, true, true, true, true, false, true, false, false, false, false, false, false, false, false, false, false, false, false, false, false, false, false, false, false, false] rfl rfl (take_ofW HT_.out HW_.out (by kernel_rfl)) (fun _ _ _ h => h) (Or.inl ⟨by rfl, ?_⟩) hHeld ?_ ?_
            rotate_left
            · rintro w' ⟨s0, s1, s2, s3, s4⟩
              go_simp
              with_reducible rfl
            rotate_left
            · simp only [Act.put, List.setIfInBounds_toArray, List.set_cons_zero, List.set_cons_succ, i64_w, i32_w]
              rfl
            refine take_ (i := 7) (N := some 33) (v := ?_) (a' := ?_) #[true, true, true, true, true, true, true, true, true, false, false, false, false, false, false, false, false, false, false, false, false, false, false, false, false, false, false, false] rfl rfl (take_ofW HT_.out HW_.out (by kernel_rfl)) (fun _ _ _ h => h) (Or.inl ⟨by rfl, ?_⟩) hHeld ?_ ?_
            rotate_left
            · rintro w' ⟨s0, s1, s2, s3, s4⟩
              go_simp
              with_reducible rfl
            rotate_left
            · simp only [Act.put, List.setIfInBounds_toArray, List.set_cons_zero, List.set_cons_succ, i64_w, i32_w]
              rfl
            refine pure_ (i := 9) (N := some 35) (v := ?_) (a' := ?_) #[true, true, true, true, true, true, true, true, true, true, false, false, false, false, false, false, false, false, false, false, false, false, false, false, false, false, false, false] rfl rfl (any_of HT_.out (by kernel_rfl)) (fun _ _ _ h => h) (Or.inl ⟨by rfl, ?_⟩) ?_ ?_
            rotate_left
            · intro w'
              go_simp
              with_reducible rfl
            rotate_left
            · simp only [Act.put, List.setIfInBounds_toArray, List.set_cons_zero, List.set_cons_succ, i64_w, i32_w]
              rfl
            refine pure_ (i := 10) (N := some 36) (v := ?_) (a' := ?_) #[true, true, true, true, true, true, true, true, true, true, true, false, false, false, false, false, false, false, false, false, false, false, false, false, false, false, false, false] rfl rfl (any_of HT_.out (by kernel_rfl)) (fun _ _ _ h => h) (Or.inl ⟨by rfl, ?_⟩) ?_ ?_
            rotate_left
            · intro w'
              go_simp
              with_reducible rfl
            rotate_left
            · simp only [Act.put, List.setIfInBounds_toArray, List.set_cons_zero, List.set_cons_succ, i64_w, i32_w]
              rfl
            refine pure_ (i := 11) (N := some 37) (v := ?_) (a' := ?_) #[true, true, true, true, true, true, true, true, true, true, true, true, false, false, false, false, false, false, false, false, false, false, false, false, false, false, false, false] rfl rfl (any_of HT_.out (by kernel_rfl)) (fun _ _ _ h => h) (Or.inl ⟨by rfl, ?_⟩) ?_ ?_
            rotate_left
            · intro w'
              go_simp
              with_reducible rfl
            rotate_left
            · simp only [Act.put, List.setIfInBounds_toArray, List.set_cons_zero, List.set_cons_succ, i64_w, i32_w]
              rfl
            refine pure_ (i := 12) (N := some 38) (v := ?_) (a' := ?_) #[true, true, true, true, true, true, true, true, true, true, true, true, true, false, false, false, false, false, false, false, false, false, false, false, false, false, false, false] rfl rfl (any_of HT_.out (by kernel_rfl)) (fun _ _ _ h => h) (Or.inl ⟨by rfl, ?_⟩) ?_ ?_
            rotate_left
            · intro w'
              go_simp
              with_reducible rfl
            rotate_left
            · simp only [Act.put, List.setIfInBounds_toArray, List.set_cons_zero, List.set_cons_succ, i64_w, i32_w]
              rfl
            refine pure_ (i := 13) (N := some 39) (v := ?_) (a' := ?_) #[true, true, true, true, true, true, true, true, true, true, true, true, true, true, false, false, false, false, false, false, false, false, false, false, false, false, false, false] rfl rfl (any_of HT_.out (by kernel_rfl)) (fun _ _ _ h => h) (Or.inl ⟨by rfl, ?_⟩) ?_ ?_
            rotate_left
            · intro w'
              go_simp
              with_reducible rfl
            rotate_left
            · simp only [Act.put, List.setIfInBounds_toArray, List.set_cons_zero, List.set_cons_succ, i64_w, i32_w]
              rfl
            refine pure_ (i := 14) (N := some 40) (v := ?_) (a' := ?_) #[true, true, true, true, true, true, true, true, true, true, true, true, true, true, true, false, false, false, false, false, false, false, false, false, false, false, false, false] rfl rfl (any_of HT_.out (by kernel_rfl)) (fun _ _ _ h => h) (Or.inl ⟨by rfl, ?_⟩) ?_ ?_
            rotate_left
            · intro w'
              go_simp
              with_reducible rfl
            rotate_left
            · simp only [Act.put, List.setIfInBounds_toArray, List.set_cons_zero, List.set_cons_succ, i64_w, i32_w]
              rfl
            refine pure_ (i := 15) (N := some 41) (v := ?_) (a' := ?_) #[true, true, true, true, true, true, true, true, true, true, true, true, true, true, true, true, false, false, false, false, false, false, false, false, false, false, false, false] rfl rfl (any_of HT_.out (by kernel_rfl)) (fun _ _ _ h => h) (Or.inl ⟨by rfl, ?_⟩) ?_ ?_
            rotate_left
            · intro w'
              go_simp
              with_reducible rfl
            rotate_left
            · simp only [Act.put, List.setIfInBounds_toArray, List.set_cons_zero, List.set_cons_succ, i64_w, i32_w]
              rfl
            refine pure_ (i := 16) (N := some 42) (v := ?_) (a' := ?_) #[true, true, true, true, true, true, true, true, true, true, true, true, true, true, true, true, true, false, false, false, false, false, false, false, false, false, false, false] rfl rfl (any_of HT_.out (by kernel_rfl)) (fun _ _ _ h => h) (Or.inl ⟨by rfl, ?_⟩) ?_ ?_
            rotate_left
            · intro w'
              go_simp
              with_reducible rfl
            rotate_left
            · simp only [Act.put, List.setIfInBounds_toArray, List.set_cons_zero, List.set_cons_succ, i64_w, i32_w]
              rfl
            refine pure_ (i := 17) (N := some 43) (v := ?_) (a' := ?_) #[true, true, true, true, true, true, true, true, true, true, true, true, true, true, true, true, true, true, false, false, false, false, false, false, false, false, false, false] rfl rfl (any_of HT_.out (by kernel_rfl)) (fun _ _ _ h => h) (Or.inl ⟨by rfl, ?_⟩) ?_ ?_
            rotate_left
            · intro w'
              go_simp
              with_reducible rfl
            rotate_left
            · simp only [Act.put, List.setIfInBounds_toArray, List.set_cons_zero, List.set_cons_succ, i64_w, i32_w]
              rfl
            refine pure_ (i := 18) (N := some 44) (v := ?_) (a' := ?_) #[true, true, true, true, true, true, true, true, true, true, true, true, true, true, true, true, true, true, true, false, false, false, false, false, false, false, false, false] rfl rfl (any_of HT_.out (by kernel_rfl)) (fun _ _ _ h => h) (Or.inl ⟨by rfl, ?_⟩) ?_ ?_
            rotate_left
            · intro w'
              go_simp
              with_reducible rfl
            rotate_left
            · simp only [Act.put, List.setIfInBounds_toArray, List.set_cons_zero, List.set_cons_succ, i64_w, i32_w]
              rfl
            refine pure_ (i := 19) (N := some 45) (v := ?_) (a' := ?_) #[true, true, true, true, true, true, true, true, true, true, true, true, true, true, true, true, true, true, true, true, false, false, false, false, false, false, false, false] rfl rfl (any_of HT_.out (by kernel_rfl)) (fun _ _ _ h => h) (Or.inl ⟨by rfl, ?_⟩) ?_ ?_
            rotate_left
            · intro w'
              go_simp
              with_reducible rfl
            rotate_left
            · simp only [Act.put, List.setIfInBounds_toArray, List.set_cons_zero, List.set_cons_succ, i64_w, i32_w]
              rfl
            refine pure_ (i := 20) (N := some 46) (v := ?_) (a' := ?_) #[true, true, true, true, true, true, true, true, true, true, true, true, true, true, true, true, true, true, true, true, true, false, false, false, false, false, false, false] rfl rfl (any_of HT_.out (by kernel_rfl)) (fun _ _ _ h => h) (Or.inl ⟨by rfl, ?_⟩) ?_ ?_
            rotate_left
            · intro w'
              go_simp
              with_reducible rfl
            rotate_left
            · simp only [Act.put, List.setIfInBounds_toArray, List.set_cons_zero, List.set_cons_succ, i64_w, i32_w]
              rfl
            refine take_ (i := 21) (N := some 47) (v := ?_) (a' := ?_) #[true, true, true, true, true, true, true, true, true, true, true, true, true, true, true, true, true, true, true, true, true, true, false, false, false, false, false, false] rfl rfl (take_ofW HT_.out HW_.out (by kernel_rfl)) (fun _ _ _ h => h) (Or.inl ⟨by rfl, ?_⟩) hHeld ?_ ?_
            rotate_left
            · rintro w' ⟨s0, s1, s2, s3, s4⟩
              go_simp
              with_reducible rfl
            rotate_left
            · simp only [Act.put, List.setIfInBounds_toArray, List.set_cons_zero, List.set_cons_succ, i64_w, i32_w]
              rfl
            refine one_ (i := 22) (N := some 48) #[true, true, true, true, true, true, true, true, true, true, true, true, true, true, true, true, true, true, true, true, true, true, true, false, false, false, false, false] rfl rfl (one_of HT_.out (by kernel_rfl)) (by decide) (fun K hK => ?_)
            refine Kd.R_lit_step (Kd.int .i64) _ 3 ?hg (N := 48) ?hd (xs := ([1, 7, 3, 7, 4, 9] : List Int)) (inner := [.int .i64 1, .int .i64 7, .int .i64 3, .int .i64 7, .int .i64 4, .int .i64 9]) (ok := fun _ => True) (okp := fun _ => True) ?hr ?hp (fun _ hk => hk) trivial (Below.refl _ _) (Nat.le_refl _) (by simp) ?_; (case hd => rfl); (case hg => rfl); (case hr => first | (go_simp; done) | (go_simp; rfl)); (case hp => exact (Reps.one (show Kd.M (Kd.int .i64) _ _ _ 1 [.int .i64 1] from rfl) (Reps.one (show Kd.M (Kd.int .i64) _ _ _ 7 [.int .i64 7] from rfl) (Reps.one (show Kd.M (Kd.int .i64) _ _ _ 3 [.int .i64 3] from rfl) (Reps.one (show Kd.M (Kd.int .i64) _ _ _ 7 [.int .i64 7] from rfl) (Reps.one (show Kd.M (Kd.int .i64) _ _ _ 4 [.int .i64 4] from rfl) (Reps.one (show Kd.M (Kd.int .i64) _ _ _ 9 [.int .i64 9] from rfl) (Reps.none _ _))))))))
            intro v177 w38 ho39 hb hg_ hnew_
            clear hg_ hnew_
            (first | rw [← Ny176.out] at ho39 | (simp only [Int.reduceToNat] at ho39; rw [← Ny176.out] at ho39))
            have n0_ := Aside0.mk (Kd.V_elder' (by (with_reducible repeat (first | apply Kd.V_alloc | apply Kd.V_drewN | apply Kd.V_drew)); exact HO155.out) (Kd.R_base ho39) hb)
            have n1_ := Aside0.mk (Kd.R_below (by (with_reducible repeat (first | apply Kd.R_alloc | apply Kd.R_drewN | apply Kd.R_drew)); exact HO162.out) hb)
            have n2_ := Aside0.mk (Kd.R_below (by (with_reducible repeat (first | apply Kd.R_alloc | apply Kd.R_drewN | apply Kd.R_drew)); exact HO172.out) hb)
            have n3_ := Aside0.mk (Kd.R_lower ho39 (below_size (by repeat (first | (with_reducible first | exact HB.out | apply below_alloc | apply pw_below_drewN | apply below_drew1 | refine below_set ?_ GE150.out | refine below_set ?_ GE157.out | refine below_set ?_ GE166.out | refine below_set ?_ GE167.out | refine below_set ?_ GE175.out) | exact HB.out))))
            have n4_ := Aside0.mk (blk_below (g := gb150) (o := .cells #[.int .i64 0, .int .u64 0, .slice none 0 0] 25 (0, 0)) (by (with_reducible repeat (first | refine blk_drewN ?_ _ | refine blk_drew ?_ | refine blk_alloc ?_ _)); exact BK150.out) hb)
            have n5_ := Aside0.mk (blk_below (g := gb157) (o := .cells #[.int .i64 t151, .int .u64 t152, .slice Ao16 t153.length co16] 25 (0, 0)) (by (with_reducible repeat (first | refine blk_drewN ?_ _ | refine blk_drew ?_ | refine blk_alloc ?_ _)); exact BK157.out) hb)
            have n6_ := Aside0.mk (blk_below (g := gb166) (o := .cells #[.int .i64 t158, .int .u64 t159, .slice Ao24 t160.length co24] 25 (0, 0)) (by (with_reducible repeat (first | refine blk_drewN ?_ _ | refine blk_drew ?_ | refine blk_alloc ?_ _)); exact BK166.out) hb)
            have n7_ := Aside0.mk (blk_below (g := gb167) (o := .cells #[.int .u64 t163, .int .i64 t164] 35 (0, 0)) (by (with_reducible repeat (first | refine blk_drewN ?_ _ | refine blk_drew ?_ | refine blk_alloc ?_ _)); exact BK167.out) hb)
            have n8_ := Aside0.mk (blk_below (g := gb175) (o := .cells #[.int .i64 t168, .int .u64 t169, .slice Ao35 t170.length co35] 25 (0, 0)) (by (with_reducible repeat (first | refine blk_drewN ?_ _ | refine blk_drew ?_ | refine blk_alloc ?_ _)); exact BK175.out) hb)
            have n9_ := Aside0.mk (below_step (by repeat (first | (with_reducible first | exact HB.out | apply below_alloc | apply pw_below_drewN | apply below_drew1 | refine below_set ?_ GE150.out | refine below_set ?_ GE157.out | refine below_set ?_ GE166.out | refine below_set ?_ GE167.out | refine below_set ?_ GE175.out) | exact HB.out)) hb)
            clear HO155
            clear HO162
            clear HO172
            clear BK150
            clear BK157
            clear BK166
            clear BK167
            clear BK175
            clear HB
            have HO155 := n0_
            have HO162 := n1_
            have HO172 := n2_
            have HO178 := n3_
            have BK150 := n4_
            have BK157 := n5_
            have BK166 := n6_
            have BK167 := n7_
            have BK175 := n8_
            have HB := n9_
            clear n0_ n1_ n2_ n3_ n4_ n5_ n6_ n7_ n8_ n9_
            clear hb ho39
            obtain ⟨Ao40, co40, eo40⟩ := Kd.R_slice HO178.out
            (first | subst eo40 | (injection eo40 with f1_ f2_ f3_; have f4_ := f1_.symm; have f5_ := f3_.symm; clear f1_ f2_ f3_; subst f4_; subst f5_))
            refine hK.out _ _ ⟨(blk_cell BK175.out 0).trans rfl, (blk_cell BK175.out 1).trans rfl, (blk_cell BK175.out 2).trans rfl, (blk_cell BK167.out 0).trans rfl, (blk_cell BK167.out 1).trans rfl⟩ (fun hHeld => ?_)
            clear hK K
            refine norm_ (a' := ?_) ?_ ?_
            rotate_left
            · show Act.put _ (some 48) _ = _
              simp only [Act.put, List.setIfInBounds_toArray, List.set_cons_zero, List.set_cons_succ, i64_w, i32_w]
              rfl
            refine one_ (i := 23) (N := some 49) #[true, true, true, true, true, true, true, true, true, true, true, true, true, true, true, true, true, true, true, true, true, true, true, true, false, false, false, false] rfl rfl (one_of HT_.out (by kernel_rfl)) (by decide) (fun K hK => ?_)
            refine goes_ Try.func35 (by kernel_rfl) rfl #[.slice Ao40 y176.length co40] (by rfl) rfl rfl (by (try simp only [List.map_toArray, List.map_cons, List.map_nil]); first | done | rfl | (simp only [List.length_drop, List.length_take]; rfl)) ?_
            with_reducible refine (L05_held.calls k _ _ y176 t179 _ ?side1 ?side2 A9.out).mono ?_
            (case side1 => repeat (first | exact (Kd.R_reads' HO178.out).2.2 | (with_reducible refine Kd.C_alloc ?_ _) | (with_reducible refine Kd.C_drewN ?_ _) | (with_reducible refine Kd.C_drew ?_)))
            (case side2 => exact (Kd.R_reads' HO178.out).2.1)
            rintro e w41 ⟨v180, rfl, ho0, hb⟩
            refine ⟨_, rfl, ?_⟩
            have n0_ := Aside0.mk (Kd.V_elder' (by (with_reducible repeat (first | apply Kd.V_alloc | apply Kd.V_drewN | apply Kd.V_drew)); exact HO155.out) (Kd.R_base ho0) hb)
            have n1_ := Aside0.mk (Kd.R_elder' (by (with_reducible repeat (first | apply Kd.R_alloc | apply Kd.R_drewN | apply Kd.R_drew)); exact HO162.out) (Kd.R_base ho0) hb)
            have n2_ := Aside0.mk (Kd.R_elder' (by (with_reducible repeat (first | apply Kd.R_alloc | apply Kd.R_drewN | apply Kd.R_drew)); exact HO172.out) (Kd.R_base ho0) hb)
            have n3_ := Aside0.mk (Kd.R_below (by (with_reducible repeat (first | apply Kd.R_alloc | apply Kd.R_drewN | apply Kd.R_drew)); exact HO178.out) hb)
            have n4_ := Aside0.mk (Kd.R_lower (Kd.R_newB (Kd.R_new' (Kd.R_new' ho0 (Kd.R_lt (by (with_reducible repeat (first | apply Kd.R_alloc | apply Kd.R_drewN | apply Kd.R_drew)); exact HO162.out))) (Kd.R_lt (by (with_reducible repeat (first | apply Kd.R_alloc | apply Kd.R_drewN | apply Kd.R_drew)); exact HO172.out))) (g := gb167) (o := .cells #[.int .u64 t163, .int .i64 t164] 35 (0, 0)) (by (with_reducible repeat (first | refine blk_drewN ?_ _ | refine blk_drew ?_ | refine blk_alloc ?_ _)); exact BK167.out)) (below_size (by repeat (first | (with_reducible first | exact HB.out | apply below_alloc | apply pw_below_drewN | apply below_drew1 | refine below_set ?_ GE150.out | refine below_set ?_ GE157.out | refine below_set ?_ GE166.out | refine below_set ?_ GE167.out | refine below_set ?_ GE175.out) | exact HB.out))))
            have n5_ := Aside0.mk (blk_below (g := gb150) (o := .cells #[.int .i64 0, .int .u64 0, .slice none 0 0] 25 (0, 0)) (by (with_reducible repeat (first | refine blk_drewN ?_ _ | refine blk_drew ?_ | refine blk_alloc ?_ _)); exact BK150.out) hb)
            have n6_ := Aside0.mk (blk_below (g := gb157) (o := .cells #[.int .i64 t151, .int .u64 t152, .slice Ao16 t153.length co16] 25 (0, 0)) (by (with_reducible repeat (first | refine blk_drewN ?_ _ | refine blk_drew ?_ | refine blk_alloc ?_ _)); exact BK157.out) hb)
            have n7_ := Aside0.mk (blk_below (g := gb166) (o := .cells #[.int .i64 t158, .int .u64 t159, .slice Ao24 t160.length co24] 25 (0, 0)) (by (with_reducible repeat (first | refine blk_drewN ?_ _ | refine blk_drew ?_ | refine blk_alloc ?_ _)); exact BK166.out) hb)
            have n8_ := Aside0.mk (blk_below (g := gb167) (o := .cells #[.int .u64 t163, .int .i64 t164] 35 (0, 0)) (by (with_reducible repeat (first | refine blk_drewN ?_ _ | refine blk_drew ?_ | refine blk_alloc ?_ _)); exact BK167.out) hb)
            have n9_ := Aside0.mk (blk_below (g := gb175) (o := .cells #[.int .i64 t168, .int .u64 t169, .slice Ao35 t170.length co35] 25 (0, 0)) (by (with_reducible repeat (first | refine blk_drewN ?_ _ | refine blk_drew ?_ | refine blk_alloc ?_ _)); exact BK175.out) hb)
            have n10_ := Aside0.mk (below_step (by repeat (first | (with_reducible first | exact HB.out | apply below_alloc | apply pw_below_drewN | apply below_drew1 | refine below_set ?_ GE150.out | refine below_set ?_ GE157.out | refine below_set ?_ GE166.out | refine below_set ?_ GE167.out | refine below_set ?_ GE175.out) | exact HB.out)) hb)
            clear HO155
            clear HO162
            clear HO172
            clear HO178
            clear BK150
            clear BK157
            clear BK166
            clear BK167
            clear BK175
            clear HB
            have HO155 := n0_
            have HO162 := n1_
            have HO172 := n2_
            have HO178 := n3_
            have HO181 := n4_
            have BK150 := n5_
            have BK157 := n6_
            have BK166 := n7_
            have BK167 := n8_
            have BK175 := n9_
            have HB := n10_
            clear n0_ n1_ n2_ n3_ n4_ n5_ n6_ n7_ n8_ n9_ n10_
            (try clear hb)
            (try clear hb2)
            (try clear hk)
            (try clear hi)
            (try clear ho0)
            obtain ⟨Ao42, co42, eo42⟩ := Kd.R_slice HO181.out
            (first | subst eo42 | (injection eo42 with f1_ f2_ f3_; have f4_ := f1_.symm; have f5_ := f3_.symm; clear f1_ f2_ f3_; subst f4_; subst f5_))
            refine hK.out _ _ ⟨(blk_cell BK175.out 0).trans rfl, (blk_cell BK175.out 1).trans rfl, (blk_cell BK175.out 2).trans rfl, (blk_cell BK167.out 0).trans rfl, (blk_cell BK167.out 1).trans rfl⟩ (fun hHeld => ?_)
            clear hK K
            refine norm_ (a' := ?_) ?_ ?_
            rotate_left
            · show Act.put _ (some 49) _ = _
              simp only [Act.put, List.setIfInBounds_toArray, List.set_cons_zero, List.set_cons_succ, i64_w, i32_w]
              rfl
            refine one_ (i := 24) (N := some 50) #[true, true, true, true, true, true, true, true, true, true, true, true, true, true, true, true, true, true, true, true, true, true, true, true, true, false, false, false] rfl rfl (one_of HT_.out (by kernel_rfl)) (by decide) (fun K hK => ?_)
            refine goes_ Try.func19 (by kernel_rfl) rfl #[.slice Ao35 t170.length co35, .slice Ao42 t179.length co42] (by rfl) rfl rfl (by (try simp only [List.map_toArray, List.map_cons, List.map_nil]); first | done | rfl | (simp only [List.length_drop, List.length_take]; rfl)) ?_
            with_reducible refine (K_SameHeld.calls k _ _ t170 _ _ t179 t182 _ ?side1 ?side2 ?side3 ?side4 A10.out).mono ?_
            (case side1 => repeat (first | exact (Kd.R_reads' HO172.out).2.2 | (with_reducible refine Kd.C_alloc ?_ _) | (with_reducible refine Kd.C_drewN ?_ _) | (with_reducible refine Kd.C_drew ?_)))
            (case side2 => exact (Kd.R_reads' HO172.out).2.1)
            (case side3 => repeat (first | exact (Kd.R_reads' HO181.out).2.2 | (with_reducible refine Kd.C_alloc ?_ _) | (with_reducible refine Kd.C_drewN ?_ _) | (with_reducible refine Kd.C_drew ?_)))
            (case side4 => exact (Kd.R_reads' HO181.out).2.1)
            rintro e w' ⟨rfl, ⟨nd, rfl⟩⟩
            refine ⟨_, rfl, ?_⟩
            refine hK.out _ _ ⟨(blk_cell BK175.out 0).trans rfl, (blk_cell BK175.out 1).trans rfl, (blk_cell BK175.out 2).trans rfl, (blk_cell BK167.out 0).trans rfl, (blk_cell BK167.out 1).trans rfl⟩ (fun hHeld => ?_)
            clear hK K
            refine norm_ (a' := ?_) ?_ ?_
            rotate_left
            · show Act.put _ (some 50) _ = _
              simp only [Act.put, List.setIfInBounds_toArray, List.set_cons_zero, List.set_cons_succ, i64_w, i32_w]
              rfl
            refine pure_ (i := 25) (N := some 51) (v := ?_) (a' := ?_) #[true, true, true, true, true, true, true, true, true, true, true, true, true, true, true, true, true, true, true, true, true, true, true, true, true, true, false, false] rfl rfl (any_of HT_.out (by kernel_rfl)) (fun _ _ _ h => h) (Or.inl ⟨by rfl, ?_⟩) ?_ ?_
            rotate_left
            · intro w'
              go_simp
              with_reducible rfl
            rotate_left
            · simp only [Act.put, List.setIfInBounds_toArray, List.set_cons_zero, List.set_cons_succ, i64_w, i32_w]
              rfl
            refine one_ (i := 26) (N := none) #[true, true, true, true, true, true, true, true, true, true, true, true, true, true, true, true, true, true, true, true, true, true, true, true, true, true, true, false] rfl rfl (one_of HT_.out (by kernel_rfl)) (by decide) (fun K hK => ?_)
            have hs43 : w41.cell? ⟨gb150, 0, none⟩ = some (.int .i64 0) := (blk_cell BK150.out 0).trans rfl
            have hfs43 := blk_frozen BK150.out 0
            have hns43_1 := NB157_150.out
            have hns43_2 := NB166_150.out
            have hns43_3 := NB167_150.out
            have hns43_4 := NB175_150.out
            have hms43_1 := NB150_157.out
            have hms43_2 := NB150_166.out
            have hms43_3 := NB150_167.out
            have hms43_4 := NB150_175.out
            have hs44 : w41.cell? ⟨gb150, 1, none⟩ = some (.int .u64 0) := (blk_cell BK150.out 1).trans rfl
            have hfs44 := blk_frozen BK150.out 1
            have hns44_1 := NB157_150.out
            have hns44_2 := NB166_150.out
            have hns44_3 := NB167_150.out
            have hns44_4 := NB175_150.out
            have hms44_1 := NB150_157.out
            have hms44_2 := NB150_166.out
            have hms44_3 := NB150_167.out
            have hms44_4 := NB150_175.out
            have hs45 : w41.cell? ⟨gb150, 2, none⟩ = some (.slice none 0 0) := (blk_cell BK150.out 2).trans rfl
            have hfs45 := blk_frozen BK150.out 2
            have hns45_1 := NB157_150.out
            have hns45_2 := NB166_150.out
            have hns45_3 := NB167_150.out
            have hns45_4 := NB175_150.out
            have hms45_1 := NB150_157.out
            have hms45_2 := NB150_166.out
            have hms45_3 := NB150_167.out
            have hms45_4 := NB150_175.out
            refine skip_ (w1 := ?_) (by rfl) rfl ?_ ?_
            rotate_left
            · go_simp
              rfl
            refine hK.out _ _ ⟨((cell_far (p := ⟨gb150, _, none⟩) NB175_150.out _).trans (((cell_far (p := ⟨gb150, _, none⟩) NB175_150.out _).trans (((cell_far (p := ⟨gb150, _, none⟩) NB175_150.out _).trans (hHeld.1)))))), ((cell_far (p := ⟨gb150, _, none⟩) NB175_150.out _).trans (((cell_far (p := ⟨gb150, _, none⟩) NB175_150.out _).trans (((cell_far (p := ⟨gb150, _, none⟩) NB175_150.out _).trans (hHeld.2.1)))))), ((cell_far (p := ⟨gb150, _, none⟩) NB175_150.out _).trans (((cell_far (p := ⟨gb150, _, none⟩) NB175_150.out _).trans (((cell_far (p := ⟨gb150, _, none⟩) NB175_150.out _).trans (hHeld.2.2.1)))))), ((cell_far (p := ⟨gb150, _, none⟩) NB167_150.out _).trans (((cell_far (p := ⟨gb150, _, none⟩) NB167_150.out _).trans (((cell_far (p := ⟨gb150, _, none⟩) NB167_150.out _).trans (hHeld.2.2.2.1)))))), ((cell_far (p := ⟨gb150, _, none⟩) NB167_150.out _).trans (((cell_far (p := ⟨gb150, _, none⟩) NB167_150.out _).trans (((cell_far (p := ⟨gb150, _, none⟩) NB167_150.out _).trans (hHeld.2.2.2.2))))))⟩ (fun hHeld => ?_)
            clear hK K
            refine pure_ (i := 27) (N := some 1) (v := ?_) (a' := ?_) #[true, true, true, true, true, true, true, true, true, true, true, true, true, true, true, true, true, true, true, true, true, true, true, true, true, true, true, true] rfl rfl (any_of HT_.out (by kernel_rfl)) (fun _ _ _ h => h) (Or.inl ⟨by rfl, ?_⟩) ?_ ?_
            rotate_left
            · intro w'
              go_simp
              with_reducible rfl
            rotate_left
            · simp only [Act.put, List.setIfInBounds_toArray, List.set_cons_zero, List.set_cons_succ, i64_w, i32_w]
              rfl
            refine done_ (done_of HT_.out (by kernel_rfl)) ?_
            try go_wp2
            all_goals refine bodyPost_ret (results_ct rfl _ _ gb150 25 #[.int .i64 t168, .int .u64 t169, .slice Ao35 t170.length co35] (0, 0) _ rfl (by (with_reducible repeat (first | refine blk_drewN ?_ _ | refine blk_drew ?_ | refine blk_alloc ?_ _)); refine blk_put (cs := #[.int .i64 t168, .int .u64 t169, .slice none 0 0]) ?_ 2 _ rfl; (with_reducible repeat (first | refine blk_drewN ?_ _ | refine blk_drew ?_ | refine blk_alloc ?_ _)); refine blk_put (cs := #[.int .i64 t168, .int .u64 0, .slice none 0 0]) ?_ 1 _ rfl; (with_reducible repeat (first | refine blk_drewN ?_ _ | refine blk_drew ?_ | refine blk_alloc ?_ _)); refine blk_put (cs := #[.int .i64 0, .int .u64 0, .slice none 0 0]) ?_ 0 _ rfl; (with_reducible repeat (first | refine blk_drewN ?_ _ | refine blk_drew ?_ | refine blk_alloc ?_ _)); exact BK150.out) Try.underlying25 rfl (by kernel_rfl)) rfl ?_
            all_goals exact ⟨_, by first | rfl | (simp [errW_none, errW_some] <;> rfl) | (simp [*, errW_none, errW_some] <;> rfl), by (with_reducible repeat (first | apply Kd.R_alloc | apply Kd.R_drewN | apply Kd.R_drew)); exact Kd.R_mono (Kd.R_far (p := ⟨gb150, 2, none⟩) (Kd.R_far (p := ⟨gb150, 1, none⟩) (Kd.R_far (p := ⟨gb150, 0, none⟩) (Kd.R_types HO172.out BK150.out (by decide)) (fun _ hk => hk.2) (.int .i64 t168)) (fun _ hk => hk.2) (.int .u64 t169)) (fun _ hk => hk.2) (.slice Ao35 t170.length co35)) (fun _ hk => trivial), by repeat (first | (with_reducible first | exact HB.out | apply below_alloc | apply pw_below_drewN | apply below_drew1 | refine below_set ?_ GE150.out | refine below_set ?_ GE157.out | refine below_set ?_ GE166.out | refine below_set ?_ GE167.out | refine below_set ?_ GE175.out) | exact HB.out)⟩
          · rw [if_neg c8] at H
            have c8b0 : (t173 == 4) = false := beq_eq_false_iff_ne.mpr c8
            have c8b1 : (t173 != 4) = true := bne_iff_ne.mpr c8
            simp only [Option.some.injEq, Prod.mk.injEq] at H
            obtain ⟨rfl, rfl, rfl, rfl⟩ := H
            exact absurd hT (by decide)
        · rw [if_neg c7] at H
          have c7b0 : (t174 == 0) = false := beq_eq_false_iff_ne.mpr c7
          have c7b1 : (t174 != 0) = true := bne_iff_ne.mpr c7
          simp only [Option.some.injEq, Prod.mk.injEq] at H
          obtain ⟨rfl, rfl, rfl, rfl⟩ := H
          exact absurd hT (by decide)
      · rw [if_neg c6] at H
        have c6b0 : (t163 == 2 && (t164 == 8)) = false := by simpa using c6
        (try (have c6b1 : decide (t163 = 2 && (t164 == 8)) = false := by simpa using c6))
        (try (have c6b2 : (t163 == 2 && (t164 == 8)) = false := by simpa using c6))
        (try (have c6b3 : ¬ (t163 = 2 && (t164 == 8)) := by simpa using c6))
        clear c6
        simp only [Option.some.injEq, Prod.mk.injEq] at H
        obtain ⟨rfl, rfl, rfl, rfl⟩ := H
        exact absurd hT (by decide)
    · rw [if_neg c5] at H
      have c5b0 : (t165 == 0) = false := beq_eq_false_iff_ne.mpr c5
      have c5b1 : (t165 != 0) = true := bne_iff_ne.mpr c5
      simp only [Option.some.injEq, Prod.mk.injEq] at H
      obtain ⟨rfl, rfl, rfl, rfl⟩ := H
      exact absurd hT (by decide)
  · replace c4 := Bool.eq_false_iff.mpr c4
    subst c4
    have H1 : (some (t168, t169, t170, false)) = some (r1, r2, r3, r4) := by rw [if_neg (show ¬ (false = true) by decide)] at H; exact H
    clear H
    have H := H1
    clear H1
    simp only [Option.some.injEq, Prod.mk.injEq] at H
    obtain ⟨rfl, rfl, rfl, rfl⟩ := H
    exact absurd hT (by decide)


end Go.Proofs.Ytoekmdcldfmmcaa.F
end
section
namespace Go.Proofs.Ytoekmdcldfmmcaa.F
open Go.RowKit Go.Proofs.YtoekmdcldfmmcaaW.PrintWords Go.Proofs.YtoekmdcldfmmcaaW.PrintLast Go.Proofs.YtoekmdcldfmmcaaW.PrintMore
set_option linter.unusedVariables false
set_option linter.unusedSimpArgs false
theorem keyed3 : Maps.Keyed Try.prog 3 := Maps.int_keyed Try.underlying3
end Go.Proofs.Ytoekmdcldfmmcaa.F
end
section
namespace Go.Proofs.Ytoekmdcldfmmcaa.F
open Go.RowKit Go.Proofs.YtoekmdcldfmmcaaW.PrintWords Go.Proofs.YtoekmdcldfmmcaaW.PrintLast Go.Proofs.YtoekmdcldfmmcaaW.PrintMore
set_option linter.unusedVariables false
set_option linter.unusedSimpArgs false
theorem key3 {x : Int} (h : wfW x = true) : keyOf Try.prog 3 (.int .i64 x) = some (.int .i64 x) := Maps.keyOf_int_mk Try.underlying3 h
end Go.Proofs.Ytoekmdcldfmmcaa.F
end
section
namespace Go.Proofs.Ytoekmdcldfmmcaa.F
open Go.RowKit Go.Proofs.YtoekmdcldfmmcaaW.PrintWords Go.Proofs.YtoekmdcldfmmcaaW.PrintLast Go.Proofs.YtoekmdcldfmmcaaW.PrintMore
set_option linter.unusedVariables false
set_option linter.unusedSimpArgs false
/-- The map in block b says p. -/
def SeenI (w : World) (b n : Nat) (p : Int → Bool) : Prop :=
  ∃ D : DataW Unit, w.ownsMap Try.prog 3 (plainElem (H := Unit) Try.prog 4) b n D ∧ (∃ es, D = .map es) ∧ ∀ x, wfW x = true → D.atKey (.int .i64 x) (.lit (.bool false)) = .lit (.bool (p x))
end Go.Proofs.Ytoekmdcldfmmcaa.F
end
section
namespace Go.Proofs.Ytoekmdcldfmmcaa.F
open Go.RowKit Go.Proofs.YtoekmdcldfmmcaaW.PrintWords Go.Proofs.YtoekmdcldfmmcaaW.PrintLast Go.Proofs.YtoekmdcldfmmcaaW.PrintMore
set_option linter.unusedVariables false
set_option linter.unusedSimpArgs false
theorem SeenI.kept {w w' : World} {b n : Nat} {p : Int → Bool} {row : Option Nat} (h : SeenI w b n p) (hg : w.grownBy w' row) (hne : some b ≠ row) : SeenI w' b n p := by
  obtain ⟨D, h1, h2⟩ := h
  exact ⟨D, h1.kept hg hne, h2⟩
end Go.Proofs.Ytoekmdcldfmmcaa.F
end
section
namespace Go.Proofs.Ytoekmdcldfmmcaa.F
open Go.RowKit Go.Proofs.YtoekmdcldfmmcaaW.PrintWords Go.Proofs.YtoekmdcldfmmcaaW.PrintLast Go.Proofs.YtoekmdcldfmmcaaW.PrintMore
set_option linter.unusedVariables false
set_option linter.unusedSimpArgs false
theorem SeenI.congr {w : World} {b n : Nat} {p q : Int → Bool} (h : SeenI w b n p) (e : ∀ x, wfW x = true → p x = q x) : SeenI w b n q := by
  obtain ⟨D, h1, h2, h3⟩ := h
  exact ⟨D, h1, h2, fun x hx => by rw [h3 x hx, e x hx]⟩
end Go.Proofs.Ytoekmdcldfmmcaa.F
end
section
namespace Go.Proofs.Ytoekmdcldfmmcaa.F
open Go.RowKit Go.Proofs.YtoekmdcldfmmcaaW.PrintWords Go.Proofs.YtoekmdcldfmmcaaW.PrintLast Go.Proofs.YtoekmdcldfmmcaaW.PrintMore
set_option linter.unusedVariables false
set_option linter.unusedSimpArgs false
theorem seenI_made (w : World) : SeenI (w.alloc (.map #[] 0)) w.heap.size 0 (fun _ => false) :=
  ⟨.map [], World.ownsMap_made w _ _ _, ⟨[], rfl⟩, fun x h => WideAt.atKey_none _ (fun _ h => (List.not_mem_nil h).elim)⟩
end Go.Proofs.Ytoekmdcldfmmcaa.F
end
section
namespace Go.Proofs.Ytoekmdcldfmmcaa.F
open Go.RowKit Go.Proofs.YtoekmdcldfmmcaaW.PrintWords Go.Proofs.YtoekmdcldfmmcaaW.PrintLast Go.Proofs.YtoekmdcldfmmcaaW.PrintMore
set_option linter.unusedVariables false
set_option linter.unusedSimpArgs false
theorem SeenI.lt {w : World} {b n : Nat} {p : Int → Bool} (h : SeenI w b n p) : b < w.heap.size := by
  obtain ⟨D, h1, h2⟩ := h
  exact h1.lt
end Go.Proofs.Ytoekmdcldfmmcaa.F
end
section
namespace Go.Proofs.Ytoekmdcldfmmcaa.F
open Go.RowKit Go.Proofs.YtoekmdcldfmmcaaW.PrintWords Go.Proofs.YtoekmdcldfmmcaaW.PrintLast Go.Proofs.YtoekmdcldfmmcaaW.PrintMore
set_option linter.unusedVariables false
set_option linter.unusedSimpArgs false
theorem plain_bool_inv {P : Program} {e : TypeId} (he : P.underlying e = some .bool) {v : Value} {d : DataW Unit} {ps : List MemPlace} (h : plainElem (H := Unit) P e v = some (d, ps)) {x : Bool} (hd : d = .lit (.bool x)) : v = .bool x := by
  subst hd
  unfold plainElem at h
  rw [he] at h
  split at h <;> simp_all
end Go.Proofs.Ytoekmdcldfmmcaa.F
end
section
namespace Go.Proofs.Ytoekmdcldfmmcaa.F
open Go.RowKit Go.Proofs.YtoekmdcldfmmcaaW.PrintWords Go.Proofs.YtoekmdcldfmmcaaW.PrintLast Go.Proofs.YtoekmdcldfmmcaaW.PrintMore
set_option linter.unusedVariables false
set_option linter.unusedSimpArgs false
set_option maxRecDepth 100000 in
theorem seenI_lookup {w : World} {b n : Nat} {p : Int → Bool} (h : SeenI w b n p) {x : Int} (hw : wfW x = true) (hz : (zeroValue 4).run Try.prog w = .ok (.bool false) w) :
    (Instr.lookup 67 (.map (some b)) (.int .i64 x) false).run Try.prog w = .ok (.bool (p x)) w := by
  obtain ⟨D, h2, h3, h5⟩ := h
  obtain ⟨v, ps, hrun, hv⟩ := h2.lookup keyed3 Try.underlying67 hz (plainElem_bool Try.underlying4 false) (key3 hw)
  have e := plain_bool_inv Try.underlying4 hv (h5 x hw)
  subst e
  exact hrun
end Go.Proofs.Ytoekmdcldfmmcaa.F
end
section
namespace Go.Proofs.Ytoekmdcldfmmcaa.F
open Go.RowKit Go.Proofs.YtoekmdcldfmmcaaW.PrintWords Go.Proofs.YtoekmdcldfmmcaaW.PrintLast Go.Proofs.YtoekmdcldfmmcaaW.PrintMore
set_option linter.unusedVariables false
set_option linter.unusedSimpArgs false
variable {ops : Array Oper} {rest : List Oper} {o : Oper} {a : Act} {Q : Exit → Act → World → Prop}
/-- 'stays[x] = true' at the operation. -/
theorem wpList_seenI_put (w : World) (hg : o.guard = none) (m x v : Operand) (hop : o.op = Op.mapUpdate 67 m x v) (b n : Nat) (p : Int → Bool) (hs : SeenI w b n p) (y : Int) (hw : wfW y = true) (hL : n < maxLen)
    (hm : a.eval m = .map (some b)) (hx : a.eval x = .int .i64 y) (hv : a.eval v = .bool true)
    (hK : ∀ w', SeenI w' b (n + 1) (fun z => z == y || p z) → w.grownBy w' (some b) → wpList Try.prog ops Q rest (a.put o.dst undef) w') : wpList Try.prog ops Q (o :: rest) a w := by
  refine wpList_plain hg fun K' hK' => ?_
  obtain ⟨D, h2, h3, h5⟩ := hs
  obtain ⟨w', hrun, ho, hg⟩ := h2.update keyed3 Try.underlying67 hL (key3 hw) (plainElem_bool Try.underlying4 true)
  unfold Oper.wp
  simp only [execOp, hop, hm, hx, hv, Sem.run_bind, hrun, Result.andThen]
  refine hK' _ _ (hK w' ⟨_, ho, ?_, fun z hz => ?_⟩ hg)
  · obtain ⟨es, rfl⟩ := h3
    exact ⟨_, rfl⟩
  · by_cases e : z = y
    · subst e
      exact (Maps.atKey_put_same h3 (keyed3.key (key3 hw)) _ _).trans (by simp)
    · have hne : Lit.int .i64 z ≠ Lit.int .i64 y := fun ek => e (by injection ek)
      rw [Maps.atKey_put_other hne, h5 z hz]
      simp [e]
end Go.Proofs.Ytoekmdcldfmmcaa.F
end
