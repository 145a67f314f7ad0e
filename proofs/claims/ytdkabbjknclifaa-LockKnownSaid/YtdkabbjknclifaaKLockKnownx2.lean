/- Part 2 of LockKnown: what the functions reckon, step by step, and plain laws. No condition. -/
import Derived.Test.YtdkabbjknclifaaKLockKnownx1
section
namespace Go.Proofs.Ytdkabbjknclifaa.F
open Go.RowKit Go.Shelf Go.Proofs.YtdkabbjknclifaaW.PrintWords Go.Proofs.YtdkabbjknclifaaW.PrintLast Go.Proofs.YtdkabbjknclifaaW.PrintMore
attribute [local go_sem] Oper.semAt_some Instr.field asAgg
set_option linter.unusedVariables false
set_option linter.unusedSimpArgs false
set_option maxHeartbeats 4000000 in
set_option maxRecDepth 100000 in
theorem lock_Slam.calls (a0_0 : Bool) (A0_1 : Option Addr) (c0_1 : Nat) (l0_1 : List Bool) (r1 : Bool) (r2 : List Bool) (r3 : Int) (r4 : Int) (w : World) (hr0_1 : Kd.C Kd.bool w A0_1 l0_1.length l0_1) (hc0_1 : l0_1.length ≤ c0_1) (h : lock_Slam.f a0_0 l0_1 = some (r1, r2, r3, r4)) :
    Calls Try.prog 34 #[.agg #[.bool a0_0, .slice A0_1 l0_1.length c0_1]] w fun e w' => ∃ v1_ : Value, e = .returned (.tuple #[.agg #[.bool r1, v1_], .int .i64 r3, .int .i64 r4]) ∧ Kd.R Kd.bool 4 w' w.heap.size (fun _ => True) v1_ r2 ∧ Below w.heap.size w w' := by
  have hu25 := Try.underlying25
  have hu64 := Try.underlying64
  have hu66 := Try.underlying66
  unfold lock_Slam.f at h
  obtain ⟨e, he, h⟩ := Option.bind_eq_some_iff.mp h
  have HE := Aside0.mk he
  have HR := Aside0.mk hr0_1
  clear he hr0_1
  by_cases c : e = 0
  · subst c
    rw [if_pos rfl] at h
    obtain ⟨i, hx, h⟩ := Option.bind_eq_some_iff.mp h
    have HX := Aside0.mk hx
    clear hx
    by_cases c1 : i < 0
    · rw [if_pos c1] at h
      simp only [Option.some.injEq, Prod.mk.injEq] at h
      obtain ⟨rfl, rfl, rfl, rfl⟩ := h
      have d1 : decide (i < 0) = true := decide_eq_true c1
      clear c1
      go_enter Try.func34, Try.ntmps34
      go_wp2_with (first | (go_at_call 28; refine (lock_Check.calls 4096 a0_0 A0_1 c0_1 l0_1 0 _ ?hr hc0_1 HE.out).mono ?_; (case hr => exact Kd.C_below HR.out (((Below.refl _ w).alloc (Nat.le_refl _) _).alloc (by simp) _)); rintro e w1 ⟨rfl, hbw⟩; have HS := Aside0.mk (show Two w w1 _ _ from two_boxes hbw); obtain ⟨q0, q1, q2, q3⟩ := con_cells HS.out.2.1; obtain ⟨q4, q5, q6, q7⟩ := con_cells HS.out.2.2; have ql := blk_lt HS.out.2.1; have ql' := blk_lt HS.out.2.2; clear hbw) | (go_at_call 51; refine (slices_Index_bool_bool.calls 4096 A0_1 c0_1 l0_1 false i _ ?hr hc0_1 HX.out).mono ?_; (case hr => exact Kd.C_below HR.out HS.out.1); rintro e wm ⟨rfl, hd⟩; have hb := hd.below; clear hd; clear q0 q1 q2 q3 q4 q5 q6 q7 ql ql'; have HS1 := Aside0.mk (HS.out.below hb); clear HS; have HS := HS1; clear HS1; obtain ⟨q0, q1, q2, q3⟩ := con_cells HS.out.2.1; obtain ⟨q4, q5, q6, q7⟩ := con_cells HS.out.2.2; have ql := blk_lt HS.out.2.1; have ql' := blk_lt HS.out.2.2; clear hb))
      exact bodyPost_ret (results_ctt rfl _ _ (w.heap.size + 1) 25 #[.bool false, .slice none 0 0] (0, 0) _ rfl (blk_put (blk_put HS.out.2.2 0 _ rfl) 1 _ rfl) hu25 rfl (by kernel_rfl)) rfl ⟨_, rfl, Kd.R_nil _ _ _ _ _, (HS.out.1.setCell (p := ⟨w.heap.size + 1, 0, none⟩) (Nat.le_succ _) _).setCell (p := ⟨w.heap.size + 1, 1, none⟩) (Nat.le_succ _) _⟩
    · rw [if_neg c1] at h
      have d1 : decide (i < 0) = false := decide_eq_false c1
      by_cases c3 : l0_1.length ≤ 64
      · rw [if_pos c3] at h
        by_cases c2 : i < (l0_1.length : Int)
        · rw [if_pos c2] at h
          simp only [Option.some.injEq, Prod.mk.injEq] at h
          obtain ⟨rfl, rfl, rfl, rfl⟩ := h
          have HP := Aside0.mk (show 0 < l0_1.length by omega)
          have HL := Aside0.mk c3
          have HI := Aside0.mk c1
          have HI' := Aside0.mk (show ¬ (l0_1.length : Int) ≤ i by omega)
          clear c1 c2 c3
          go_enter Try.func34, Try.ntmps34
          go_upto_region 8 with (first | (go_at_call 28; refine (lock_Check.calls 4096 a0_0 A0_1 c0_1 l0_1 0 _ ?hr hc0_1 HE.out).mono ?_; (case hr => exact Kd.C_below HR.out (((Below.refl _ w).alloc (Nat.le_refl _) _).alloc (by simp) _)); rintro e w1 ⟨rfl, hbw⟩; have HS := Aside0.mk (show Two w w1 _ _ from two_boxes hbw); obtain ⟨q0, q1, q2, q3⟩ := con_cells HS.out.2.1; obtain ⟨q4, q5, q6, q7⟩ := con_cells HS.out.2.2; have ql := blk_lt HS.out.2.1; have ql' := blk_lt HS.out.2.2; clear hbw) | (go_at_call 42; refine (of_calls _ _ _ _ _).mono ?_; rintro e wo ⟨rfl, hb⟩; clear q0 q1 q2 q3 q4 q5 q6 q7 ql ql'; have HS1 := Aside0.mk (HS.out.below hb); clear HS; have HS := HS1; clear HS1; obtain ⟨q0, q1, q2, q3⟩ := con_cells HS.out.2.1; obtain ⟨q4, q5, q6, q7⟩ := con_cells HS.out.2.2; have ql := blk_lt HS.out.2.1; have ql' := blk_lt HS.out.2.2; clear hb) | (go_at_call 51; refine (slices_Index_bool_bool.calls 4096 A0_1 c0_1 l0_1 false i _ ?hr hc0_1 HX.out).mono ?_; (case hr => exact Kd.C_below HR.out HS.out.1); rintro e wm ⟨rfl, hd⟩; have hb := hd.below; clear hd; clear q0 q1 q2 q3 q4 q5 q6 q7 ql ql'; have HS1 := Aside0.mk (HS.out.below hb); clear HS; have HS := HS1; clear HS1; obtain ⟨q0, q1, q2, q3⟩ := con_cells HS.out.2.1; obtain ⟨q4, q5, q6, q7⟩ := con_cells HS.out.2.2; have ql := blk_lt HS.out.2.1; have ql' := blk_lt HS.out.2.2; clear hb) | (go_at_call 49; refine (chain_clone a0_0 A0_1 c0_1 l0_1 _ ?hr HP.out HL.out).mono ?_; (case hr => exact Kd.C_below HR.out HS.out.1); rintro e wc ⟨vc, rfl, hRc, hb⟩; obtain ⟨gc, cc, rfl, hgc, hgc', cells, hcells⟩ := Kd.R_form hRc HP.out; have HG := Aside0.mk (show w.heap.size + 2 ≤ gc by omega); have HRC := Aside0.mk (Kd.R_lower hRc HS.out.1.size); clear hRc hgc hgc' hcells; clear q0 q1 q2 q3 q4 q5 q6 q7 ql ql'; have HS1 := Aside0.mk (HS.out.below hb); clear HS; have HS := HS1; clear HS1; obtain ⟨q0, q1, q2, q3⟩ := con_cells HS.out.2.1; obtain ⟨q4, q5, q6, q7⟩ := con_cells HS.out.2.2; have ql := blk_lt HS.out.2.1; have ql' := blk_lt HS.out.2.2; clear hb))
          have hgl : gc < wc.heap.size := Kd.R_lt HRC.out gc rfl
          obtain ⟨W5, hW5⟩ : ∃ W5, (wc.alloc (Obj.cells #[Value.bool a0_0, Value.slice (some { block := gc, off := 0 }) l0_1.length cc] 64)) = W5 := ⟨_, rfl⟩
          have HT := Aside0.mk (show Two w W5 _ _ from HS.out.below (by rw [← hW5]; exact (Below.refl _ wc).alloc (Nat.le_refl _) _))
          have HO := Aside0.mk (show W5.heap[wc.heap.size]? = some (.cells #[Value.bool a0_0, Value.slice (some { block := gc, off := 0 }) l0_1.length cc] 64 (0, 0)) by rw [← hW5]; exact blk_new wc _)
          have HRD := Aside0.mk (show Kd.R Kd.bool 4 W5 w.heap.size (fun _ => True) (.slice (some ⟨gc, 0, none⟩) l0_1.length cc) l0_1 by rw [← hW5]; exact Kd.R_alloc HRC.out _)
          rw [hW5]
          have HWZ := Aside0.mk ql'
          clear q0 q1 q2 q3 q4 q5 q6 q7 ql ql'
          obtain ⟨q4, q5, q6, q7⟩ := con_cells HT.out.2.2
          obtain ⟨q0, q1, q2, q3⟩ := con_cells HO.out
          have p1 : (0 ≤ i) = True := eq_true (by have := HI.out; omega)
          have p2 : (i < (l0_1.length : Int)) = True := eq_true (by have := HI'.out; omega)
          have HCE := Kd.R_cell false HRD.out i (by have := HI.out; omega) (by have := HI'.out; omega)
          obtain ⟨q8, q9⟩ := HCE
          have n1 : wc.heap.size ≠ gc := by omega
          have n2 : gc ≠ wc.heap.size := by omega
          have n3 : wc.heap.size ≠ w.heap.size + 1 := by have := HWZ.out; omega
          have n4 : w.heap.size + 1 ≠ wc.heap.size := by have := HWZ.out; omega
          have n5 : gc ≠ w.heap.size + 1 := by have := HG.out; omega
          have n6 : w.heap.size + 1 ≠ gc := by have := HG.out; omega
          go_wp2
          have r1 := Kd.R_types (Kd.R_types HRD.out HO.out (by decide)) HT.out.2.2 (by decide)
          have r3 := (Kd.R_put r1 i true).1
          have r5 := Kd.R_far (p := ⟨w.heap.size + 1, 1, none⟩) (Kd.R_far (p := ⟨w.heap.size + 1, 0, none⟩) r3 (fun _ hk => hk.2) (.bool a0_0)) (fun _ hk => hk.2) (.slice (some ⟨gc, 0, none⟩) l0_1.length cc)
          have hz1 : w.heap.size ≤ wc.heap.size := by have := HWZ.out; omega
          have hz2 : w.heap.size ≤ gc := by have := HG.out; omega
          exact bodyPost_ret (results_ctt rfl _ _ (w.heap.size + 1) 25 #[.bool a0_0, .slice (some ⟨gc, 0, none⟩) l0_1.length cc] (0, 0) _ rfl (blk_put (blk_put (blk_far (p := ⟨gc, i.toNat, none⟩) HT.out.2.2 n6 _) 0 _ rfl) 1 _ rfl) hu25 rfl (by kernel_rfl)) rfl ⟨_, rfl, Kd.R_mono r5 (fun _ _ => trivial), ((HT.out.1.setCell (p := ⟨gc, i.toNat, none⟩) hz2 _).setCell (p := ⟨w.heap.size + 1, 0, none⟩) (Nat.le_succ _) _).setCell (p := ⟨w.heap.size + 1, 1, none⟩) (Nat.le_succ _) _⟩
        · rw [if_neg c2] at h
          cases h
      · rw [if_neg c3] at h
        cases h
  · rw [if_neg c] at h
    have cb : (e != 0) = true := bne_iff_ne.mpr c
    clear c
    simp only [Option.some.injEq, Prod.mk.injEq] at h
    obtain ⟨rfl, rfl, rfl, rfl⟩ := h
    go_enter Try.func34, Try.ntmps34
    go_wp2_with (first | (go_at_call 28; refine (lock_Check.calls 4096 a0_0 A0_1 c0_1 l0_1 e _ ?hr hc0_1 HE.out).mono ?_; (case hr => exact Kd.C_below HR.out (((Below.refl _ w).alloc (Nat.le_refl _) _).alloc (by simp) _)); rintro e w1 ⟨rfl, hbw⟩; have HS := Aside0.mk (show Two w w1 _ _ from two_boxes hbw); obtain ⟨q0, q1, q2, q3⟩ := con_cells HS.out.2.1; obtain ⟨q4, q5, q6, q7⟩ := con_cells HS.out.2.2; have ql := blk_lt HS.out.2.1; have ql' := blk_lt HS.out.2.2; clear hbw))
    exact bodyPost_ret (results_ctt rfl _ _ (w.heap.size + 1) 25 #[.bool false, .slice none 0 0] (0, 0) _ rfl (blk_put (blk_put HS.out.2.2 0 _ rfl) 1 _ rfl) hu25 rfl (by kernel_rfl)) rfl ⟨_, rfl, Kd.R_nil _ _ _ _ _, (HS.out.1.setCell (p := ⟨w.heap.size + 1, 0, none⟩) (Nat.le_succ _) _).setCell (p := ⟨w.heap.size + 1, 1, none⟩) (Nat.le_succ _) _⟩

end Go.Proofs.Ytdkabbjknclifaa.F
end
