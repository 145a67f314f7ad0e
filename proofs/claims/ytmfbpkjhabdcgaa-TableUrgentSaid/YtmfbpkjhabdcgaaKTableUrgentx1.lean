/- Part 1 of TableUrgent: what the functions reckon, step by step, and plain laws. No condition. -/
import Derived.Test.YtmfbpkjhabdcgaaKB21x3
section
/- Contract of table.Urgent and its closure. -/
namespace Go.Proofs.Ytmfbpkjhabdcgaa.F
open Go.RowKit Go.Proofs.YtmfbpkjhabdcgaaW.PrintWords Go.Proofs.YtmfbpkjhabdcgaaW.PrintLast Go.Proofs.YtmfbpkjhabdcgaaW.PrintMore
set_option linter.unusedVariables false
set_option linter.unusedSimpArgs false

/-- Urgent$1. -/
def isUrgent (now age : Int) (x : S29) : Bool := (x.f0 != 3) && (decide (x.f3 ≤ now) && decide (age ≤ wrap64 (now - x.f3)))
set_option maxHeartbeats 1000000 in
set_option maxRecDepth 100000 in
theorem urgent1_pred (w : World) (row : Option Nat) (gn ga : Nat) (now age : Int) (hbn : w.heap[gn]? = some (.cells #[.int .i64 now] 3 (0, 0))) (hnn : some gn ≠ row) (hba : w.heap[ga]? = some (.cells #[.int .i64 age] 3 (0, 0))) (hna : some ga ≠ row) :
    PredG 131 #[.pointer (some ⟨gn, 0, none⟩), .pointer (some ⟨ga, 0, none⟩)] (isUrgent now age) w row := by
  intro W x0 x1 x2 x3 hW
  have HN := Aside0.mk (cell_grown hbn hnn hW)
  have HA := Aside0.mk (cell_grown hba hna hW)
  clear hbn hnn hba hna hW
  show Calls Try.prog 131 #[.agg #[.int .i64 x0, .int .i64 x1, .int .i64 x2, .int .i64 x3], .pointer (some ⟨gn, 0, none⟩), .pointer (some ⟨ga, 0, none⟩)] W _
  cases h1 : (x0 != 3) with
  | false =>
    go_enter Try.func131, Try.ntmps131
    go_wp2_with (first | ((with_reducible refine gate_dst (N := 3) rfl ?_); refine box_event ?hg (N := 3) ?hd (cs := #[.int .i64 x0, .int .i64 x1, .int .i64 x2, .int .i64 x3]) (t := 29) ?hr ?_; (case hd => rfl); (case hg => rfl); (case hr => first | (go_simp; done) | (go_simp; rfl)); intro gb hg_ w3 hx_ hb_; have HB3 := Aside0.mk hb_; have b0 := (blk_cell hx_ 0).trans rfl; have b1 := (blk_cell hx_ 1).trans rfl; have b2 := (blk_cell hx_ 2).trans rfl; have b3 := (blk_cell hx_ 3).trans rfl; have HX := Aside0.mk hx_; have HN3 := Aside0.mk (blk_below HN.out hb_); have HA3 := Aside0.mk (blk_below HA.out hb_); clear hb_ hg_ hx_) | (go_at_call 132; refine (thall_calls _ _ _ _ _).mono ?_; rw [h1]; rintro e w5 ⟨rfl, hb5⟩; have HB5 := Aside0.mk (below_then HB3.out HB3.out.size hb5); have n0 := (blk_cell (blk_below HN3.out hb5) 0).trans rfl; have a0 := (blk_cell (blk_below HA3.out hb5) 0).trans rfl; have e3 := (blk_cell (blk_below HX.out hb5) 3).trans rfl; clear hb5))
    go_ret
    refine ⟨?_, HB5.out⟩
    show Ending.returned _ = Ending.returned (.bool ((x0 != 3) && (decide (x3 ≤ now) && decide (age ≤ wrap64 (now - x3)))))
    rw [h1]; rfl
  | true =>
    cases h2 : decide (x3 ≤ now) with
    | false =>
      go_enter Try.func131, Try.ntmps131
      go_wp2_with (first | ((with_reducible refine gate_dst (N := 3) rfl ?_); refine box_event ?hg (N := 3) ?hd (cs := #[.int .i64 x0, .int .i64 x1, .int .i64 x2, .int .i64 x3]) (t := 29) ?hr ?_; (case hd => rfl); (case hg => rfl); (case hr => first | (go_simp; done) | (go_simp; rfl)); intro gb hg_ w3 hx_ hb_; have HB3 := Aside0.mk hb_; have b0 := (blk_cell hx_ 0).trans rfl; have b1 := (blk_cell hx_ 1).trans rfl; have b2 := (blk_cell hx_ 2).trans rfl; have b3 := (blk_cell hx_ 3).trans rfl; have HX := Aside0.mk hx_; have HN3 := Aside0.mk (blk_below HN.out hb_); have HA3 := Aside0.mk (blk_below HA.out hb_); clear hb_ hg_ hx_) | (go_at_call 132; refine (thall_calls _ _ _ _ _).mono ?_; rw [h1]; rintro e w5 ⟨rfl, hb5⟩; have HB5 := Aside0.mk (below_then HB3.out HB3.out.size hb5); have n0 := (blk_cell (blk_below HN3.out hb5) 0).trans rfl; have a0 := (blk_cell (blk_below HA3.out hb5) 0).trans rfl; have e3 := (blk_cell (blk_below HX.out hb5) 3).trans rfl; clear hb5))
      go_ret
      refine ⟨?_, HB5.out⟩
      show Ending.returned _ = Ending.returned (.bool ((x0 != 3) && (decide (x3 ≤ now) && decide (age ≤ wrap64 (now - x3)))))
      rw [h1, h2]; rfl
    | true =>
      cases h3 : decide (age ≤ wrap64 (now - x3)) with
      | false =>
        go_enter Try.func131, Try.ntmps131
        go_wp2_with (first | ((with_reducible refine gate_dst (N := 3) rfl ?_); refine box_event ?hg (N := 3) ?hd (cs := #[.int .i64 x0, .int .i64 x1, .int .i64 x2, .int .i64 x3]) (t := 29) ?hr ?_; (case hd => rfl); (case hg => rfl); (case hr => first | (go_simp; done) | (go_simp; rfl)); intro gb hg_ w3 hx_ hb_; have HB3 := Aside0.mk hb_; have b0 := (blk_cell hx_ 0).trans rfl; have b1 := (blk_cell hx_ 1).trans rfl; have b2 := (blk_cell hx_ 2).trans rfl; have b3 := (blk_cell hx_ 3).trans rfl; have HX := Aside0.mk hx_; have HN3 := Aside0.mk (blk_below HN.out hb_); have HA3 := Aside0.mk (blk_below HA.out hb_); clear hb_ hg_ hx_) | (go_at_call 132; refine (thall_calls _ _ _ _ _).mono ?_; rw [h1]; rintro e w5 ⟨rfl, hb5⟩; have HB5 := Aside0.mk (below_then HB3.out HB3.out.size hb5); have n0 := (blk_cell (blk_below HN3.out hb5) 0).trans rfl; have a0 := (blk_cell (blk_below HA3.out hb5) 0).trans rfl; have e3 := (blk_cell (blk_below HX.out hb5) 3).trans rfl; clear hb5))
        go_ret
        refine ⟨?_, HB5.out⟩
        show Ending.returned _ = Ending.returned (.bool ((x0 != 3) && (decide (x3 ≤ now) && decide (age ≤ wrap64 (now - x3)))))
        rw [h1, h2, h3]; rfl
      | true =>
        go_enter Try.func131, Try.ntmps131
        go_wp2_with (first | ((with_reducible refine gate_dst (N := 3) rfl ?_); refine box_event ?hg (N := 3) ?hd (cs := #[.int .i64 x0, .int .i64 x1, .int .i64 x2, .int .i64 x3]) (t := 29) ?hr ?_; (case hd => rfl); (case hg => rfl); (case hr => first | (go_simp; done) | (go_simp; rfl)); intro gb hg_ w3 hx_ hb_; have HB3 := Aside0.mk hb_; have b0 := (blk_cell hx_ 0).trans rfl; have b1 := (blk_cell hx_ 1).trans rfl; have b2 := (blk_cell hx_ 2).trans rfl; have b3 := (blk_cell hx_ 3).trans rfl; have HX := Aside0.mk hx_; have HN3 := Aside0.mk (blk_below HN.out hb_); have HA3 := Aside0.mk (blk_below HA.out hb_); clear hb_ hg_ hx_) | (go_at_call 132; refine (thall_calls _ _ _ _ _).mono ?_; rw [h1]; rintro e w5 ⟨rfl, hb5⟩; have HB5 := Aside0.mk (below_then HB3.out HB3.out.size hb5); have n0 := (blk_cell (blk_below HN3.out hb5) 0).trans rfl; have a0 := (blk_cell (blk_below HA3.out hb5) 0).trans rfl; have e3 := (blk_cell (blk_below HX.out hb5) 3).trans rfl; clear hb5))
        go_ret
        refine ⟨?_, HB5.out⟩
        show Ending.returned _ = Ending.returned (.bool ((x0 != 3) && (decide (x3 ≤ now) && decide (age ≤ wrap64 (now - x3)))))
        rw [h1, h2, h3]; rfl

def table_Urgent.f (a0_0 : Int) (l0_1 : List (S29)) (a1 : Int) (a2 : Int) : Option ((List (S29)) × Int) :=
  (table_valid.f a0_0 l0_1).bind fun e => if e = 0 then (if a2 < 0 then some ([], 2) else if l0_1.length < 4398046511104 then some (l0_1.filter (isUrgent a1 a2), 0) else none) else some ([], e)

set_option maxHeartbeats 4000000 in
set_option maxRecDepth 100000 in
theorem table_Urgent.calls (a0_0 : Int) (A0_1 : Option Addr) (c0_1 : Nat) (l0_1 : List (S29)) (a1 : Int) (a2 : Int) (r1 : List (S29)) (r2 : Int) (w : World) (hr0_1 : Kd.C k29 w A0_1 l0_1.length l0_1) (hc0_1 : l0_1.length ≤ c0_1) (h : table_Urgent.f a0_0 l0_1 a1 a2 = some (r1, r2)) :
    Calls Try.prog 32 #[.agg #[.int .i64 a0_0, .slice A0_1 l0_1.length c0_1], .int .i64 a1, .int .i64 a2] w fun e w' => ∃ v0_ : Value, e = .returned (.tuple #[v0_, .int .i64 r2]) ∧ Kd.R k29 29 w' w.heap.size (fun _ => True) v0_ r1 ∧ Below w.heap.size w w' := by
  have hu25 := Try.underlying25
  unfold table_Urgent.f at h
  obtain ⟨e, he, h⟩ := Option.bind_eq_some_iff.mp h
  have HE := Aside0.mk he
  have HC := Aside0.mk hr0_1
  clear he hr0_1
  by_cases c0 : e = 0
  · subst c0
    rw [if_pos rfl] at h
    by_cases c1 : a2 < 0
    · rw [if_pos c1] at h
      simp only [Option.some.injEq, Prod.mk.injEq] at h
      obtain ⟨rfl, rfl⟩ := h
      have d1 : decide (a2 < 0) = true := decide_eq_true c1
      clear c1
      go_enter Try.func32, Try.ntmps32
      go_wp2_with (first | ((with_reducible refine gate_dst (N := 3) rfl ?_); refine box_event ?hg (N := 3) ?hd (cs := #[.int .i64 a0_0, .slice A0_1 l0_1.length c0_1]) (t := 25) ?hr ?_; (case hd => rfl); (case hg => rfl); (case hr => first | (go_simp; done) | (go_simp; rfl)); intro gt hg_ w3 hx_ hb_; have HB3 := Aside0.mk hb_; have HX3 := Aside0.mk hx_; clear hg_ hb_ hx_) | ((with_reducible refine gate_dst (N := 4) rfl ?_); refine box_event ?hg (N := 4) ?hd (cs := #[.int .i64 a1]) (t := 3) ?hr ?_; (case hd => rfl); (case hg => rfl); (case hr => first | (go_simp; done) | (go_simp; rfl)); intro gn hg_ w4 hx_ hb_; have HB4 := Aside0.mk (below_then HB3.out HB3.out.size hb_); have HN4 := Aside0.mk hx_; have HX4 := Aside0.mk (blk_below HX3.out hb_); clear hg_ hb_ hx_) | ((with_reducible refine gate_dst (N := 5) rfl ?_); refine box_event ?hg (N := 5) ?hd (cs := #[.int .i64 a2]) (t := 3) ?hr ?_; (case hd => rfl); (case hg => rfl); (case hr => first | (go_simp; done) | (go_simp; rfl)); intro ga hg_ w5 hx_ hb_; have HB5 := Aside0.mk (below_then HB4.out HB4.out.size hb_); have HN5 := Aside0.mk (blk_below HN4.out hb_); have HX5 := Aside0.mk (blk_below HX4.out hb_); have HA5 := Aside0.mk hx_; have r0 := (blk_cell HX5.out 0).trans rfl; have r1 := (blk_cell HX5.out 1).trans rfl; clear hg_ hb_ hx_) | (go_at_call 129; refine (table_valid.calls a0_0 A0_1 c0_1 l0_1 _ _ (Kd.C_below HC.out HB5.out) hc0_1 HE.out).mono ?_; rintro e w6 ⟨rfl, hb_⟩; have HB6 := Aside0.mk (below_then HB5.out HB5.out.size hb_); have HN6 := Aside0.mk (blk_below HN5.out hb_); have HX6 := Aside0.mk (blk_below HX5.out hb_); have HA6 := Aside0.mk (blk_below HA5.out hb_); have s0 := (blk_cell HX6.out 0).trans rfl; have s1 := (blk_cell HX6.out 1).trans rfl; have s2 := (blk_cell HN6.out 0).trans rfl; have s3 := (blk_cell HA6.out 0).trans rfl; clear hb_))
      refine bodyPost_ret (results_tmp2 rfl _ _ _) rfl ?_
      exact ⟨_, rfl, Kd.R_nil _ _ _ _ _, HB6.out⟩
    · rw [if_neg c1] at h
      have d1 : decide (a2 < 0) = false := decide_eq_false c1
      clear c1
      split at h
      case isFalse => cases h
      case isTrue hl =>
      simp only [Option.some.injEq, Prod.mk.injEq] at h
      obtain ⟨rfl, rfl⟩ := h
      have HL := Aside0.mk hl
      clear hl
      go_enter Try.func32, Try.ntmps32
      go_wp2_with (first | ((with_reducible refine gate_dst (N := 3) rfl ?_); refine box_event ?hg (N := 3) ?hd (cs := #[.int .i64 a0_0, .slice A0_1 l0_1.length c0_1]) (t := 25) ?hr ?_; (case hd => rfl); (case hg => rfl); (case hr => first | (go_simp; done) | (go_simp; rfl)); intro gt hg_ w3 hx_ hb_; have HB3 := Aside0.mk hb_; have HX3 := Aside0.mk hx_; clear hg_ hb_ hx_) | ((with_reducible refine gate_dst (N := 4) rfl ?_); refine box_event ?hg (N := 4) ?hd (cs := #[.int .i64 a1]) (t := 3) ?hr ?_; (case hd => rfl); (case hg => rfl); (case hr => first | (go_simp; done) | (go_simp; rfl)); intro gn hg_ w4 hx_ hb_; have HB4 := Aside0.mk (below_then HB3.out HB3.out.size hb_); have HN4 := Aside0.mk hx_; have HX4 := Aside0.mk (blk_below HX3.out hb_); clear hg_ hb_ hx_) | ((with_reducible refine gate_dst (N := 5) rfl ?_); refine box_event ?hg (N := 5) ?hd (cs := #[.int .i64 a2]) (t := 3) ?hr ?_; (case hd => rfl); (case hg => rfl); (case hr => first | (go_simp; done) | (go_simp; rfl)); intro ga hg_ w5 hx_ hb_; have HB5 := Aside0.mk (below_then HB4.out HB4.out.size hb_); have HN5 := Aside0.mk (blk_below HN4.out hb_); have HX5 := Aside0.mk (blk_below HX4.out hb_); have HA5 := Aside0.mk hx_; have r0 := (blk_cell HX5.out 0).trans rfl; have r1 := (blk_cell HX5.out 1).trans rfl; clear hg_ hb_ hx_) | (go_at_call 129; refine (table_valid.calls a0_0 A0_1 c0_1 l0_1 _ _ (Kd.C_below HC.out HB5.out) hc0_1 HE.out).mono ?_; rintro e w6 ⟨rfl, hb_⟩; have HB6 := Aside0.mk (below_then HB5.out HB5.out.size hb_); have HN6 := Aside0.mk (blk_below HN5.out hb_); have HX6 := Aside0.mk (blk_below HX5.out hb_); have HA6 := Aside0.mk (blk_below HA5.out hb_); have s0 := (blk_cell HX6.out 0).trans rfl; have s1 := (blk_cell HX6.out 1).trans rfl; have s2 := (blk_cell HN6.out 0).trans rfl; have s3 := (blk_cell HA6.out 0).trans rfl; clear hb_) | (go_at_call 130; refine (filter_calls 131 _ (enters_of Try.func131 (by kernel_rfl) rfl) (isUrgent a1 a2) a0_0 A0_1 c0_1 l0_1 _ (Kd.C_below HC.out HB6.out) hc0_1 HL.out (urgent1_pred _ none gn ga a1 a2 HN6.out (fun e => by cases e) HA6.out (fun e => by cases e))).mono ?_; rintro e w7 ⟨v7, rfl, ho7, hb7⟩; have HO7 := Aside0.mk (Kd.R_lower ho7 HB6.out.size); have HB7 := Aside0.mk (below_then HB6.out HB6.out.size hb7); clear ho7 hb7))
      refine bodyPost_ret (results_tmp2 rfl _ _ _) rfl ?_
      exact ⟨_, rfl, HO7.out, HB7.out⟩
  · rw [if_neg c0] at h
    simp only [Option.some.injEq, Prod.mk.injEq] at h
    obtain ⟨rfl, rfl⟩ := h
    have d0 : (e == 0) = false := beq_eq_false_iff_ne.mpr c0
    have d1 : (e != 0) = true := bne_iff_ne.mpr c0
    clear c0
    go_enter Try.func32, Try.ntmps32
    go_wp2_with (first | ((with_reducible refine gate_dst (N := 3) rfl ?_); refine box_event ?hg (N := 3) ?hd (cs := #[.int .i64 a0_0, .slice A0_1 l0_1.length c0_1]) (t := 25) ?hr ?_; (case hd => rfl); (case hg => rfl); (case hr => first | (go_simp; done) | (go_simp; rfl)); intro gt hg_ w3 hx_ hb_; have HB3 := Aside0.mk hb_; have HX3 := Aside0.mk hx_; clear hg_ hb_ hx_) | ((with_reducible refine gate_dst (N := 4) rfl ?_); refine box_event ?hg (N := 4) ?hd (cs := #[.int .i64 a1]) (t := 3) ?hr ?_; (case hd => rfl); (case hg => rfl); (case hr => first | (go_simp; done) | (go_simp; rfl)); intro gn hg_ w4 hx_ hb_; have HB4 := Aside0.mk (below_then HB3.out HB3.out.size hb_); have HN4 := Aside0.mk hx_; have HX4 := Aside0.mk (blk_below HX3.out hb_); clear hg_ hb_ hx_) | ((with_reducible refine gate_dst (N := 5) rfl ?_); refine box_event ?hg (N := 5) ?hd (cs := #[.int .i64 a2]) (t := 3) ?hr ?_; (case hd => rfl); (case hg => rfl); (case hr => first | (go_simp; done) | (go_simp; rfl)); intro ga hg_ w5 hx_ hb_; have HB5 := Aside0.mk (below_then HB4.out HB4.out.size hb_); have HN5 := Aside0.mk (blk_below HN4.out hb_); have HX5 := Aside0.mk (blk_below HX4.out hb_); have HA5 := Aside0.mk hx_; have r0 := (blk_cell HX5.out 0).trans rfl; have r1 := (blk_cell HX5.out 1).trans rfl; clear hg_ hb_ hx_) | (go_at_call 129; refine (table_valid.calls a0_0 A0_1 c0_1 l0_1 _ _ (Kd.C_below HC.out HB5.out) hc0_1 HE.out).mono ?_; rintro e w6 ⟨rfl, hb_⟩; have HB6 := Aside0.mk (below_then HB5.out HB5.out.size hb_); have HN6 := Aside0.mk (blk_below HN5.out hb_); have HX6 := Aside0.mk (blk_below HX5.out hb_); have HA6 := Aside0.mk (blk_below HA5.out hb_); have s0 := (blk_cell HX6.out 0).trans rfl; have s1 := (blk_cell HX6.out 1).trans rfl; have s2 := (blk_cell HN6.out 0).trans rfl; have s3 := (blk_cell HA6.out 0).trans rfl; clear hb_))
    refine bodyPost_ret (results_tmp2 rfl _ _ _) rfl ?_
    exact ⟨_, rfl, Kd.R_nil _ _ _ _ _, HB6.out⟩

end Go.Proofs.Ytmfbpkjhabdcgaa.F
end
section
-- Written by fork.py (this session's program over the kit's print.py). Not trusted: Lean checks it.
namespace Go.Proofs.Ytmfbpkjhabdcgaa.F
open Go.RowKit Go.Proofs.YtmfbpkjhabdcgaaW.PrintWords Go.Proofs.YtmfbpkjhabdcgaaW.PrintLast Go.Proofs.YtmfbpkjhabdcgaaW.PrintMore
attribute [local go_sem] max2_int min2_int max_two min_two max_three min_three max_four min_four
set_option linter.unusedVariables false
set_option linter.unusedSimpArgs false

/-! ### L21_TableUrgent: function 4 -/
mutual
def L21_TableUrgent.j0 : Nat → Int → Int → List (S29) → List (S29) → Bool → Option (Bool)
  | 0, _, _, _, _, _ => none
  | k + 1, x13, x14, x16, x18, x101 => if x101 = true then (some false) else (L21_TableUrgent.l0 k x13 x14 x16 x18 0)
def L21_TableUrgent.l0 : Nat → Int → Int → List (S29) → List (S29) → Int → Option (Bool)
  | 0, _, _, _, _, _ => none
  | k + 1, x13, x14, x16, x18, x22 => if x22 < (x16.length : Int) then (if 0 ≤ x22 then (if ((decide ((wrap64 (x13 - ((rd_T29 x16 x22).f3))) ≥ x14)) != (decide (x22 < (x18.length : Int)))) = true then (some false) else (if ((rd_T29 x16 x22).f0) = 3 then (some false) else (L21_TableUrgent.l0 k x13 x14 x16 x18 (wrap64 (x22 + 1))))) else (none)) else ((L21_awake.f k).bind fun t256 => (some t256))
end
def L21_TableUrgent.f (k : Nat) (a0 : Int) (l1 : List Int) (a2 : Int) (a3 : Int) (a4 : Int) : Option (Bool) := (L21_made.f k a0 l1).bind fun bt223 => ((K_Mod.f a2 60).bind fun t229 => ((K_Mod.f a3 60).bind fun t230 => ((K_Mod.f a4 20).bind fun t231 => ((table_Urgent.f bt223.1 bt223.2.1 1000 0).bind fun bt232 => ((table_Urgent.f bt223.1 bt223.2.1 t229 t230).bind fun bt236 => ((table_Urgent.f bt223.1 bt223.2.1 t229 (wrap64 (t230 + t231))).bind fun bt240 => (if bt223.2.2 = true then (if bt232.2 = 0 then (if bt236.2 = 0 then (if bt240.2 = 0 then (if (bt240.1.length : Int) > (bt236.1.length : Int) then (L21_TableUrgent.j0 k t229 t230 bt232.1 bt236.1 true) else (if (bt236.1.length : Int) > (bt232.1.length : Int) then (L21_TableUrgent.j0 k t229 t230 bt232.1 bt236.1 true) else (if 0 ≤ (bt236.1.length : Int) then (if (bt236.1.length : Int) ≤ (bt232.1.length : Int) then ((K_SameCallsIn.f k bt236.1 (bt232.1.take ((bt236.1.length : Int) : Int).toNat)).bind fun t248 => (if t248 = true then (if 0 ≤ (bt240.1.length : Int) then (if (bt240.1.length : Int) ≤ (bt236.1.length : Int) then ((K_SameCallsIn.f k bt240.1 (bt236.1.take ((bt240.1.length : Int) : Int).toNat)).bind fun t253 => (L21_TableUrgent.j0 k t229 t230 bt232.1 bt236.1 (!t253))) else (none)) else (none)) else (L21_TableUrgent.j0 k t229 t230 bt232.1 bt236.1 true))) else (none)) else (none)))) else (L21_TableUrgent.j0 k t229 t230 bt232.1 bt236.1 true)) else (L21_TableUrgent.j0 k t229 t230 bt232.1 bt236.1 true)) else (L21_TableUrgent.j0 k t229 t230 bt232.1 bt236.1 true)) else (L21_TableUrgent.j0 k t229 t230 bt232.1 bt236.1 true))))))))
theorem L21_TableUrgent.mono_l : ∀ k, (∀ y0 y1 y2 y3 y4, LeO (L21_TableUrgent.j0 k y0 y1 y2 y3 y4) (L21_TableUrgent.j0 (k + 1) y0 y1 y2 y3 y4)) ∧ (∀ y0 y1 y2 y3 y4, LeO (L21_TableUrgent.l0 k y0 y1 y2 y3 y4) (L21_TableUrgent.l0 (k + 1) y0 y1 y2 y3 y4))
  | 0 => ⟨fun _ _ _ _ _ r h => by simp [L21_TableUrgent.j0] at h, fun _ _ _ _ _ r h => by simp [L21_TableUrgent.l0] at h⟩
  | k + 1 => by
    obtain ⟨ih0, ih1⟩ := L21_TableUrgent.mono_l k
    refine ⟨?_, ?_⟩
    · intro y0 y1 y2 y3 y4
      unfold L21_TableUrgent.j0
      repeat' first
      | (with_reducible exact ih0 _ _ _ _ _)
      | (with_reducible exact ih1 _ _ _ _ _)
      | (with_reducible exact K_SameCallsIn.mono _ _ _)
      | (with_reducible exact L21_awake.mono _)
      | (with_reducible exact L21_made.mono _ _ _)
      | (with_reducible exact LeO.refl _)
      | (with_reducible exact LeO.none _)
      | (with_reducible refine LeO.ite ?_ ?_)
      | (with_reducible refine LeO.bind ?_ (fun _ => ?_))
      | exact ih0 _ _ _ _ _
      | exact ih1 _ _ _ _ _
      | exact K_SameCallsIn.mono _ _ _
      | exact L21_awake.mono _
      | exact L21_made.mono _ _ _
      | exact LeO.none _
      | refine LeO.ite ?_ ?_
      | refine LeO.bind ?_ (fun _ => ?_)
    · intro y0 y1 y2 y3 y4
      unfold L21_TableUrgent.l0
      repeat' first
      | (with_reducible exact ih0 _ _ _ _ _)
      | (with_reducible exact ih1 _ _ _ _ _)
      | (with_reducible exact K_SameCallsIn.mono _ _ _)
      | (with_reducible exact L21_awake.mono _)
      | (with_reducible exact L21_made.mono _ _ _)
      | (with_reducible exact LeO.refl _)
      | (with_reducible exact LeO.none _)
      | (with_reducible refine LeO.ite ?_ ?_)
      | (with_reducible refine LeO.bind ?_ (fun _ => ?_))
      | exact ih0 _ _ _ _ _
      | exact ih1 _ _ _ _ _
      | exact K_SameCallsIn.mono _ _ _
      | exact L21_awake.mono _
      | exact L21_made.mono _ _ _
      | exact LeO.none _
      | refine LeO.ite ?_ ?_
      | refine LeO.bind ?_ (fun _ => ?_)
theorem L21_TableUrgent.mono : ∀ a0 a1 a2 a3 a4 k, LeO (L21_TableUrgent.f k a0 a1 a2 a3 a4) (L21_TableUrgent.f (k + 1) a0 a1 a2 a3 a4) := by
  intro a0 a1 a2 a3 a4 k
  obtain ⟨ih0, ih1⟩ := L21_TableUrgent.mono_l k
  unfold L21_TableUrgent.f
  repeat' first
      | (with_reducible exact ih0 _ _ _ _ _)
      | (with_reducible exact ih1 _ _ _ _ _)
      | (with_reducible exact K_SameCallsIn.mono _ _ _)
      | (with_reducible exact L21_awake.mono _)
      | (with_reducible exact L21_made.mono _ _ _)
      | (with_reducible exact LeO.refl _)
      | (with_reducible exact LeO.none _)
      | (with_reducible refine LeO.ite ?_ ?_)
      | (with_reducible refine LeO.bind ?_ (fun _ => ?_))
      | exact ih0 _ _ _ _ _
      | exact ih1 _ _ _ _ _
      | exact K_SameCallsIn.mono _ _ _
      | exact L21_awake.mono _
      | exact L21_made.mono _ _ _
      | exact LeO.none _
      | refine LeO.ite ?_ ?_
      | refine LeO.bind ?_ (fun _ => ?_)
theorem L21_TableUrgent.j0_d101true (k : Nat) (x13 : Int) (x14 : Int) (x16 : List (S29)) (x18 : List (S29)) : L21_TableUrgent.j0 k x13 x14 x16 x18 true ≠ some true := by
  cases k with
  | zero => simp only [L21_TableUrgent.j0]; exact never_none
  | succ k =>
    simp only [L21_TableUrgent.j0]
    all_goals (try rw [if_pos rfl])
    all_goals (repeat (first | exact never_none | exact never_false | refine never_ite ?_ ?_ | refine never_bind (fun _ => ?_)))
set_option maxHeartbeats 8000000 in
set_option maxRecDepth 100000 in
theorem L21_TableUrgent.calls (k : Nat) (a0 : Int) (A1 : Option Addr) (c1 : Nat) (l1 : List Int) (a2 : Int) (a3 : Int) (a4 : Int) (r : Bool) (w : World) (hr1 : Kd.C (Kd.int .i64) w A1 l1.length l1) (hc1 : l1.length ≤ c1) (h : L21_TableUrgent.f k a0 l1 a2 a3 a4 = some r) (ht_ : r = true := by rfl) :
    Calls Try.prog 4 #[.int .i64 a0, .slice A1 l1.length c1, .int .i64 a2, .int .i64 a3, .int .i64 a4] w fun e w' => e = .returned (.bool r) ∧ Below w.heap.size w w' := by
  subst ht_
  have hu25 := Try.underlying25
  have HR1 := Aside0.mk hr1
  have HC1 := Aside0.mk hc1
  clear hr1 hc1
  have HB := Aside0.mk (Below.refl w.heap.size w)
  have H : ((L21_made.f k a0 l1).bind fun bt223 => ((K_Mod.f a2 60).bind fun t229 => ((K_Mod.f a3 60).bind fun t230 => ((K_Mod.f a4 20).bind fun t231 => ((table_Urgent.f bt223.1 bt223.2.1 1000 0).bind fun bt232 => ((table_Urgent.f bt223.1 bt223.2.1 t229 t230).bind fun bt236 => ((table_Urgent.f bt223.1 bt223.2.1 t229 (wrap64 (t230 + t231))).bind fun bt240 => (if bt223.2.2 = true then (if bt232.2 = 0 then (if bt236.2 = 0 then (if bt240.2 = 0 then (if (bt240.1.length : Int) > (bt236.1.length : Int) then (L21_TableUrgent.j0 k t229 t230 bt232.1 bt236.1 true) else (if (bt236.1.length : Int) > (bt232.1.length : Int) then (L21_TableUrgent.j0 k t229 t230 bt232.1 bt236.1 true) else (if 0 ≤ (bt236.1.length : Int) then (if (bt236.1.length : Int) ≤ (bt232.1.length : Int) then ((K_SameCallsIn.f k bt236.1 (bt232.1.take ((bt236.1.length : Int) : Int).toNat)).bind fun t248 => (if t248 = true then (if 0 ≤ (bt240.1.length : Int) then (if (bt240.1.length : Int) ≤ (bt236.1.length : Int) then ((K_SameCallsIn.f k bt240.1 (bt236.1.take ((bt240.1.length : Int) : Int).toNat)).bind fun t253 => (L21_TableUrgent.j0 k t229 t230 bt232.1 bt236.1 (!t253))) else (none)) else (none)) else (L21_TableUrgent.j0 k t229 t230 bt232.1 bt236.1 true))) else (none)) else (none)))) else (L21_TableUrgent.j0 k t229 t230 bt232.1 bt236.1 true)) else (L21_TableUrgent.j0 k t229 t230 bt232.1 bt236.1 true)) else (L21_TableUrgent.j0 k t229 t230 bt232.1 bt236.1 true)) else (L21_TableUrgent.j0 k t229 t230 bt232.1 bt236.1 true))))))))) = some true := h
  clear h
  replace H := Option.bind_eq_some_iff.mp H
  obtain ⟨⟨t223, t224, t227⟩, A60, H⟩ := H
  replace H : ((K_Mod.f a2 60).bind fun t229 => ((K_Mod.f a3 60).bind fun t230 => ((K_Mod.f a4 20).bind fun t231 => ((table_Urgent.f t223 t224 1000 0).bind fun bt232 => ((table_Urgent.f t223 t224 t229 t230).bind fun bt236 => ((table_Urgent.f t223 t224 t229 (wrap64 (t230 + t231))).bind fun bt240 => (if t227 = true then (if bt232.2 = 0 then (if bt236.2 = 0 then (if bt240.2 = 0 then (if (bt240.1.length : Int) > (bt236.1.length : Int) then (L21_TableUrgent.j0 k t229 t230 bt232.1 bt236.1 true) else (if (bt236.1.length : Int) > (bt232.1.length : Int) then (L21_TableUrgent.j0 k t229 t230 bt232.1 bt236.1 true) else (if 0 ≤ (bt236.1.length : Int) then (if (bt236.1.length : Int) ≤ (bt232.1.length : Int) then ((K_SameCallsIn.f k bt236.1 (bt232.1.take ((bt236.1.length : Int) : Int).toNat)).bind fun t248 => (if t248 = true then (if 0 ≤ (bt240.1.length : Int) then (if (bt240.1.length : Int) ≤ (bt236.1.length : Int) then ((K_SameCallsIn.f k bt240.1 (bt236.1.take ((bt240.1.length : Int) : Int).toNat)).bind fun t253 => (L21_TableUrgent.j0 k t229 t230 bt232.1 bt236.1 (!t253))) else (none)) else (none)) else (L21_TableUrgent.j0 k t229 t230 bt232.1 bt236.1 true))) else (none)) else (none)))) else (L21_TableUrgent.j0 k t229 t230 bt232.1 bt236.1 true)) else (L21_TableUrgent.j0 k t229 t230 bt232.1 bt236.1 true)) else (L21_TableUrgent.j0 k t229 t230 bt232.1 bt236.1 true)) else (L21_TableUrgent.j0 k t229 t230 bt232.1 bt236.1 true)))))))) = some true := H
  have A6 := Aside0.mk A60
  clear A60
  replace H := Option.bind_eq_some_iff.mp H
  obtain ⟨t229, A70, H⟩ := H
  replace H : ((K_Mod.f a3 60).bind fun t230 => ((K_Mod.f a4 20).bind fun t231 => ((table_Urgent.f t223 t224 1000 0).bind fun bt232 => ((table_Urgent.f t223 t224 t229 t230).bind fun bt236 => ((table_Urgent.f t223 t224 t229 (wrap64 (t230 + t231))).bind fun bt240 => (if t227 = true then (if bt232.2 = 0 then (if bt236.2 = 0 then (if bt240.2 = 0 then (if (bt240.1.length : Int) > (bt236.1.length : Int) then (L21_TableUrgent.j0 k t229 t230 bt232.1 bt236.1 true) else (if (bt236.1.length : Int) > (bt232.1.length : Int) then (L21_TableUrgent.j0 k t229 t230 bt232.1 bt236.1 true) else (if 0 ≤ (bt236.1.length : Int) then (if (bt236.1.length : Int) ≤ (bt232.1.length : Int) then ((K_SameCallsIn.f k bt236.1 (bt232.1.take ((bt236.1.length : Int) : Int).toNat)).bind fun t248 => (if t248 = true then (if 0 ≤ (bt240.1.length : Int) then (if (bt240.1.length : Int) ≤ (bt236.1.length : Int) then ((K_SameCallsIn.f k bt240.1 (bt236.1.take ((bt240.1.length : Int) : Int).toNat)).bind fun t253 => (L21_TableUrgent.j0 k t229 t230 bt232.1 bt236.1 (!t253))) else (none)) else (none)) else (L21_TableUrgent.j0 k t229 t230 bt232.1 bt236.1 true))) else (none)) else (none)))) else (L21_TableUrgent.j0 k t229 t230 bt232.1 bt236.1 true)) else (L21_TableUrgent.j0 k t229 t230 bt232.1 bt236.1 true)) else (L21_TableUrgent.j0 k t229 t230 bt232.1 bt236.1 true)) else (L21_TableUrgent.j0 k t229 t230 bt232.1 bt236.1 true))))))) = some true := H
  have A7 := Aside0.mk A70
  clear A70
  replace H := Option.bind_eq_some_iff.mp H
  obtain ⟨t230, A80, H⟩ := H
  replace H : ((K_Mod.f a4 20).bind fun t231 => ((table_Urgent.f t223 t224 1000 0).bind fun bt232 => ((table_Urgent.f t223 t224 t229 t230).bind fun bt236 => ((table_Urgent.f t223 t224 t229 (wrap64 (t230 + t231))).bind fun bt240 => (if t227 = true then (if bt232.2 = 0 then (if bt236.2 = 0 then (if bt240.2 = 0 then (if (bt240.1.length : Int) > (bt236.1.length : Int) then (L21_TableUrgent.j0 k t229 t230 bt232.1 bt236.1 true) else (if (bt236.1.length : Int) > (bt232.1.length : Int) then (L21_TableUrgent.j0 k t229 t230 bt232.1 bt236.1 true) else (if 0 ≤ (bt236.1.length : Int) then (if (bt236.1.length : Int) ≤ (bt232.1.length : Int) then ((K_SameCallsIn.f k bt236.1 (bt232.1.take ((bt236.1.length : Int) : Int).toNat)).bind fun t248 => (if t248 = true then (if 0 ≤ (bt240.1.length : Int) then (if (bt240.1.length : Int) ≤ (bt236.1.length : Int) then ((K_SameCallsIn.f k bt240.1 (bt236.1.take ((bt240.1.length : Int) : Int).toNat)).bind fun t253 => (L21_TableUrgent.j0 k t229 t230 bt232.1 bt236.1 (!t253))) else (none)) else (none)) else (L21_TableUrgent.j0 k t229 t230 bt232.1 bt236.1 true))) else (none)) else (none)))) else (L21_TableUrgent.j0 k t229 t230 bt232.1 bt236.1 true)) else (L21_TableUrgent.j0 k t229 t230 bt232.1 bt236.1 true)) else (L21_TableUrgent.j0 k t229 t230 bt232.1 bt236.1 true)) else (L21_TableUrgent.j0 k t229 t230 bt232.1 bt236.1 true)))))) = some true := H
  have A8 := Aside0.mk A80
  clear A80
  replace H := Option.bind_eq_some_iff.mp H
  obtain ⟨t231, A90, H⟩ := H
  replace H : ((table_Urgent.f t223 t224 1000 0).bind fun bt232 => ((table_Urgent.f t223 t224 t229 t230).bind fun bt236 => ((table_Urgent.f t223 t224 t229 (wrap64 (t230 + t231))).bind fun bt240 => (if t227 = true then (if bt232.2 = 0 then (if bt236.2 = 0 then (if bt240.2 = 0 then (if (bt240.1.length : Int) > (bt236.1.length : Int) then (L21_TableUrgent.j0 k t229 t230 bt232.1 bt236.1 true) else (if (bt236.1.length : Int) > (bt232.1.length : Int) then (L21_TableUrgent.j0 k t229 t230 bt232.1 bt236.1 true) else (if 0 ≤ (bt236.1.length : Int) then (if (bt236.1.length : Int) ≤ (bt232.1.length : Int) then ((K_SameCallsIn.f k bt236.1 (bt232.1.take ((bt236.1.length : Int) : Int).toNat)).bind fun t248 => (if t248 = true then (if 0 ≤ (bt240.1.length : Int) then (if (bt240.1.length : Int) ≤ (bt236.1.length : Int) then ((K_SameCallsIn.f k bt240.1 (bt236.1.take ((bt240.1.length : Int) : Int).toNat)).bind fun t253 => (L21_TableUrgent.j0 k t229 t230 bt232.1 bt236.1 (!t253))) else (none)) else (none)) else (L21_TableUrgent.j0 k t229 t230 bt232.1 bt236.1 true))) else (none)) else (none)))) else (L21_TableUrgent.j0 k t229 t230 bt232.1 bt236.1 true)) else (L21_TableUrgent.j0 k t229 t230 bt232.1 bt236.1 true)) else (L21_TableUrgent.j0 k t229 t230 bt232.1 bt236.1 true)) else (L21_TableUrgent.j0 k t229 t230 bt232.1 bt236.1 true))))) = some true := H
  have A9 := Aside0.mk A90
  clear A90
  replace H := Option.bind_eq_some_iff.mp H
  obtain ⟨⟨t232, t235⟩, A100, H⟩ := H
  replace H : ((table_Urgent.f t223 t224 t229 t230).bind fun bt236 => ((table_Urgent.f t223 t224 t229 (wrap64 (t230 + t231))).bind fun bt240 => (if t227 = true then (if t235 = 0 then (if bt236.2 = 0 then (if bt240.2 = 0 then (if (bt240.1.length : Int) > (bt236.1.length : Int) then (L21_TableUrgent.j0 k t229 t230 t232 bt236.1 true) else (if (bt236.1.length : Int) > (t232.length : Int) then (L21_TableUrgent.j0 k t229 t230 t232 bt236.1 true) else (if 0 ≤ (bt236.1.length : Int) then (if (bt236.1.length : Int) ≤ (t232.length : Int) then ((K_SameCallsIn.f k bt236.1 (t232.take ((bt236.1.length : Int) : Int).toNat)).bind fun t248 => (if t248 = true then (if 0 ≤ (bt240.1.length : Int) then (if (bt240.1.length : Int) ≤ (bt236.1.length : Int) then ((K_SameCallsIn.f k bt240.1 (bt236.1.take ((bt240.1.length : Int) : Int).toNat)).bind fun t253 => (L21_TableUrgent.j0 k t229 t230 t232 bt236.1 (!t253))) else (none)) else (none)) else (L21_TableUrgent.j0 k t229 t230 t232 bt236.1 true))) else (none)) else (none)))) else (L21_TableUrgent.j0 k t229 t230 t232 bt236.1 true)) else (L21_TableUrgent.j0 k t229 t230 t232 bt236.1 true)) else (L21_TableUrgent.j0 k t229 t230 t232 bt236.1 true)) else (L21_TableUrgent.j0 k t229 t230 t232 bt236.1 true)))) = some true := H
  have A10 := Aside0.mk A100
  clear A100
  replace H := Option.bind_eq_some_iff.mp H
  obtain ⟨⟨t236, t239⟩, A110, H⟩ := H
  replace H : ((table_Urgent.f t223 t224 t229 (wrap64 (t230 + t231))).bind fun bt240 => (if t227 = true then (if t235 = 0 then (if t239 = 0 then (if bt240.2 = 0 then (if (bt240.1.length : Int) > (t236.length : Int) then (L21_TableUrgent.j0 k t229 t230 t232 t236 true) else (if (t236.length : Int) > (t232.length : Int) then (L21_TableUrgent.j0 k t229 t230 t232 t236 true) else (if 0 ≤ (t236.length : Int) then (if (t236.length : Int) ≤ (t232.length : Int) then ((K_SameCallsIn.f k t236 (t232.take ((t236.length : Int) : Int).toNat)).bind fun t248 => (if t248 = true then (if 0 ≤ (bt240.1.length : Int) then (if (bt240.1.length : Int) ≤ (t236.length : Int) then ((K_SameCallsIn.f k bt240.1 (t236.take ((bt240.1.length : Int) : Int).toNat)).bind fun t253 => (L21_TableUrgent.j0 k t229 t230 t232 t236 (!t253))) else (none)) else (none)) else (L21_TableUrgent.j0 k t229 t230 t232 t236 true))) else (none)) else (none)))) else (L21_TableUrgent.j0 k t229 t230 t232 t236 true)) else (L21_TableUrgent.j0 k t229 t230 t232 t236 true)) else (L21_TableUrgent.j0 k t229 t230 t232 t236 true)) else (L21_TableUrgent.j0 k t229 t230 t232 t236 true))) = some true := H
  have A11 := Aside0.mk A110
  clear A110
  replace H := Option.bind_eq_some_iff.mp H
  obtain ⟨⟨t240, t243⟩, A120, H⟩ := H
  replace H : (if t227 = true then (if t235 = 0 then (if t239 = 0 then (if t243 = 0 then (if (t240.length : Int) > (t236.length : Int) then (L21_TableUrgent.j0 k t229 t230 t232 t236 true) else (if (t236.length : Int) > (t232.length : Int) then (L21_TableUrgent.j0 k t229 t230 t232 t236 true) else (if 0 ≤ (t236.length : Int) then (if (t236.length : Int) ≤ (t232.length : Int) then ((K_SameCallsIn.f k t236 (t232.take ((t236.length : Int) : Int).toNat)).bind fun t248 => (if t248 = true then (if 0 ≤ (t240.length : Int) then (if (t240.length : Int) ≤ (t236.length : Int) then ((K_SameCallsIn.f k t240 (t236.take ((t240.length : Int) : Int).toNat)).bind fun t253 => (L21_TableUrgent.j0 k t229 t230 t232 t236 (!t253))) else (none)) else (none)) else (L21_TableUrgent.j0 k t229 t230 t232 t236 true))) else (none)) else (none)))) else (L21_TableUrgent.j0 k t229 t230 t232 t236 true)) else (L21_TableUrgent.j0 k t229 t230 t232 t236 true)) else (L21_TableUrgent.j0 k t229 t230 t232 t236 true)) else (L21_TableUrgent.j0 k t229 t230 t232 t236 true)) = some true := H
  have A12 := Aside0.mk A120
  clear A120
  have HC13 := Aside0.mk H
  clear H
  go_enter Try.func4, Try.ntmps4
  go_upto_region 7 with (first | ((with_reducible refine gate_callee (f := 29) rfl ?_); refine goesL_ (some 26) rfl rfl Try.func29 (by kernel_rfl) rfl #[.int .i64 a0, .slice A1 l1.length c1] rfl (by (try simp only [List.map_toArray, List.map_cons, List.map_nil]); first | done | rfl | (simp only [List.length_drop, List.length_take]; rfl)) ?_; (with_reducible refine (L21_made.calls k a0 _ _ l1 t223 t224 t227 _ ?side1 ?side2 A6.out).mono ?_); (case side1 => repeat (first | exact HR1.out | (with_reducible refine Kd.C_alloc ?_ _) | (with_reducible refine Kd.C_drewN ?_ _) | (with_reducible refine Kd.C_drew ?_))); (case side2 => exact HC1.out); rintro e w14 ⟨v225, rfl, ho0, hb⟩; refine ⟨_, rfl, ?_⟩; have n0_ := Aside0.mk (Kd.R_lower ho0 (below_size (by repeat (first | (with_reducible first | exact HB.out | apply below_alloc | apply pw_below_drewN | apply below_drew1) | exact HB.out)))); have n1_ := Aside0.mk (below_step (by repeat (first | (with_reducible first | exact HB.out | apply below_alloc | apply pw_below_drewN | apply below_drew1) | exact HB.out)) hb); clear HB; have HO226 := n0_; have HB := n1_; clear n0_ n1_; (try clear hb); (try clear hb2); (try clear hk); (try clear hi); (try clear ho0)) | ((with_reducible refine gate_dst (N := 11) rfl ?_); (try (refine gate_guard (by rfl) ?_; dsimp only)); refine box_event ?hg (N := 11) ?hd (cs := #[.int .i64 0, .slice none 0 0]) (t := 25) ?hr ?_; (case hd => rfl); (case hg => rfl); (case hr => first | (go_simp; done) | (go_simp; rfl)); intro gb228 hg w15 hbox hb; have n0_ := Aside0.mk (Kd.R_below (by (with_reducible repeat (first | apply Kd.R_alloc | apply Kd.R_drewN | apply Kd.R_drew)); exact HO226.out) hb); have n1_ := Aside0.mk (below_step (by repeat (first | (with_reducible first | exact HB.out | apply below_alloc | apply pw_below_drewN | apply below_drew1) | exact HB.out)) hb); have n2_ := Aside0.mk (hbox); have n3_ := Aside0.mk ((by rw [hg]; exact (below_size (by repeat (first | (with_reducible first | exact HB.out | apply below_alloc | apply pw_below_drewN | apply below_drew1) | exact HB.out))) : w.heap.size ≤ gb228)); have n4_ := Aside0.mk ((by rw [hg]; exact (below_size (by repeat (first | (with_reducible first | exact HB.out | apply below_alloc | apply pw_below_drewN | apply below_drew1) | exact HB.out))) : w.heap.size ≤ gb228)); clear HO226; clear HB; have HO226 := n0_; have HB := n1_; have BK228 := n2_; have GW228 := n3_; have GE228 := n4_; clear n0_ n1_ n2_ n3_ n4_; clear hb hbox hg; have hcz16_0 : w15.cell? ⟨gb228, 0, none⟩ = some (.int .i64 0) := (blk_cell BK228.out 0).trans rfl; have hcz16_1 : w15.cell? ⟨gb228, 1, none⟩ = some (.slice none 0 0) := (blk_cell BK228.out 1).trans rfl; have hfz16_0 := blk_frozen BK228.out 0; have hfz16_1 := blk_frozen BK228.out 1; obtain ⟨Ao17, co17, eo17⟩ := Kd.R_slice HO226.out; subst eo17) | ((with_reducible refine gate_callee (f := 31) rfl ?_); refine goesL_ (some 30) rfl rfl Try.func31 (by kernel_rfl) rfl #[.int .i64 a2, .int .i64 60] rfl (by (try simp only [List.map_toArray, List.map_cons, List.map_nil]); first | done | rfl | (simp only [List.length_drop, List.length_take]; rfl)) ?_; (with_reducible refine (K_Mod.calls a2 60 t229 _ A7.out).mono ?_); rintro e w' ⟨rfl, ⟨nd, rfl⟩⟩; refine ⟨_, rfl, ?_⟩) | ((with_reducible refine gate_callee (f := 31) rfl ?_); refine goesL_ (some 32) rfl rfl Try.func31 (by kernel_rfl) rfl #[.int .i64 a3, .int .i64 60] rfl (by (try simp only [List.map_toArray, List.map_cons, List.map_nil]); first | done | rfl | (simp only [List.length_drop, List.length_take]; rfl)) ?_; (with_reducible refine (K_Mod.calls a3 60 t230 _ A8.out).mono ?_); rintro e w' ⟨rfl, ⟨nd, rfl⟩⟩; refine ⟨_, rfl, ?_⟩) | ((with_reducible refine gate_callee (f := 31) rfl ?_); refine goesL_ (some 35) rfl rfl Try.func31 (by kernel_rfl) rfl #[.int .i64 a4, .int .i64 20] rfl (by (try simp only [List.map_toArray, List.map_cons, List.map_nil]); first | done | rfl | (simp only [List.length_drop, List.length_take]; rfl)) ?_; (with_reducible refine (K_Mod.calls a4 20 t231 _ A9.out).mono ?_); rintro e w' ⟨rfl, ⟨nd, rfl⟩⟩; refine ⟨_, rfl, ?_⟩) | ((with_reducible refine gate_callee (f := 32) rfl ?_); refine goesL_ (some 39) rfl rfl Try.func32 (by kernel_rfl) rfl #[.agg #[.int .i64 t223, .slice Ao17 t224.length co17], .int .i64 1000, .int .i64 0] rfl (by (try simp only [List.map_toArray, List.map_cons, List.map_nil]); first | done | rfl | (simp only [List.length_drop, List.length_take]; rfl)) ?_; (with_reducible refine (table_Urgent.calls t223 _ _ t224 1000 0 t232 t235 _ ?side1 ?side2 A10.out).mono ?_); (case side1 => refine (Kd.R_reads' (e := 29) (base := w.heap.size) (ok := fun k_ => True) (n := t224.length) (c := co17) ?_).2.2; exact (by (with_reducible repeat (first | apply Kd.R_alloc | apply Kd.R_drewN | apply Kd.R_drew)); exact (Kd.R_mono (Kd.R_far (p := ⟨gb228, 1, none⟩) (Kd.R_far (p := ⟨gb228, 0, none⟩) (Kd.R_types HO226.out BK228.out (by decide)) (fun _ hk => hk.2) (.int .i64 t223)) (fun _ hk => hk.2) (.slice Ao17 t224.length co17)) (fun _ h_ => h_.1)))); (case side2 => exact (Kd.R_reads' HO226.out).2.1); rintro e w18 ⟨v233, rfl, ho0, hb⟩; refine ⟨_, rfl, ?_⟩; have n0_ := Aside0.mk (Kd.R_elder' (by (with_reducible repeat (first | apply Kd.R_alloc | apply Kd.R_drewN | apply Kd.R_drew)); exact (Kd.R_mono (Kd.R_far (p := ⟨gb228, 1, none⟩) (Kd.R_far (p := ⟨gb228, 0, none⟩) (Kd.R_types HO226.out BK228.out (by decide)) (fun _ hk => hk.2) (.int .i64 t223)) (fun _ hk => hk.2) (.slice Ao17 t224.length co17)) (fun _ h_ => h_.1))) (Kd.R_base ho0) hb); have n1_ := Aside0.mk (Kd.R_lower (Kd.R_new' ho0 (Kd.R_lt (by (with_reducible repeat (first | apply Kd.R_alloc | apply Kd.R_drewN | apply Kd.R_drew)); exact (Kd.R_mono (Kd.R_far (p := ⟨gb228, 1, none⟩) (Kd.R_far (p := ⟨gb228, 0, none⟩) (Kd.R_types HO226.out BK228.out (by decide)) (fun _ hk => hk.2) (.int .i64 t223)) (fun _ hk => hk.2) (.slice Ao17 t224.length co17)) (fun _ h_ => h_.1))))) (below_size (by repeat (first | (with_reducible first | exact HB.out | apply below_alloc | apply pw_below_drewN | apply below_drew1 | refine below_set ?_ GE228.out) | exact HB.out)))); have n2_ := Aside0.mk (blk_below (g := gb228) (o := .cells #[.int .i64 t223, .slice Ao17 t224.length co17] 25 (0, 0)) (by (with_reducible repeat (first | refine blk_drewN ?_ _ | refine blk_drew ?_ | refine blk_alloc ?_ _)); refine blk_put (cs := #[.int .i64 t223, .slice none 0 0]) ?_ 1 _ rfl; (with_reducible repeat (first | refine blk_drewN ?_ _ | refine blk_drew ?_ | refine blk_alloc ?_ _)); refine blk_put (cs := #[.int .i64 0, .slice none 0 0]) ?_ 0 _ rfl; (with_reducible repeat (first | refine blk_drewN ?_ _ | refine blk_drew ?_ | refine blk_alloc ?_ _)); exact BK228.out) hb); have n3_ := Aside0.mk (below_step (by repeat (first | (with_reducible first | exact HB.out | apply below_alloc | apply pw_below_drewN | apply below_drew1 | refine below_set ?_ GE228.out) | exact HB.out)) hb); clear HO226; clear BK228; clear HB; have HO226 := n0_; have HO234 := n1_; have BK228 := n2_; have HB := n3_; clear n0_ n1_ n2_ n3_; (try clear hb); (try clear hb2); (try clear hk); (try clear hi); (try clear ho0); have hcz19_0 : w18.cell? ⟨gb228, 0, none⟩ = some (.int .i64 t223) := (blk_cell BK228.out 0).trans rfl; have hcz19_1 : w18.cell? ⟨gb228, 1, none⟩ = some (.slice Ao17 t224.length co17) := (blk_cell BK228.out 1).trans rfl; have hfz19_0 := blk_frozen BK228.out 0; have hfz19_1 := blk_frozen BK228.out 1) | ((with_reducible refine gate_callee (f := 32) rfl ?_); refine goesL_ (some 46) rfl rfl Try.func32 (by kernel_rfl) rfl #[.agg #[.int .i64 t223, .slice Ao17 t224.length co17], .int .i64 t229, .int .i64 t230] rfl (by (try simp only [List.map_toArray, List.map_cons, List.map_nil]); first | done | rfl | (simp only [List.length_drop, List.length_take]; rfl)) ?_; (with_reducible refine (table_Urgent.calls t223 _ _ t224 t229 t230 t236 t239 _ ?side1 ?side2 A11.out).mono ?_); (case side1 => repeat (first | exact (Kd.R_reads' HO226.out).2.2 | (with_reducible refine Kd.C_alloc ?_ _) | (with_reducible refine Kd.C_drewN ?_ _) | (with_reducible refine Kd.C_drew ?_))); (case side2 => exact (Kd.R_reads' HO226.out).2.1); rintro e w20 ⟨v237, rfl, ho0, hb⟩; refine ⟨_, rfl, ?_⟩; have n0_ := Aside0.mk (Kd.R_elder' (by (with_reducible repeat (first | apply Kd.R_alloc | apply Kd.R_drewN | apply Kd.R_drew)); exact HO226.out) (Kd.R_base ho0) hb); have n1_ := Aside0.mk (Kd.R_elder' (by (with_reducible repeat (first | apply Kd.R_alloc | apply Kd.R_drewN | apply Kd.R_drew)); exact HO234.out) (Kd.R_base ho0) hb); have n2_ := Aside0.mk (Kd.R_lower (Kd.R_new' (Kd.R_new' ho0 (Kd.R_lt (by (with_reducible repeat (first | apply Kd.R_alloc | apply Kd.R_drewN | apply Kd.R_drew)); exact HO226.out))) (Kd.R_lt (by (with_reducible repeat (first | apply Kd.R_alloc | apply Kd.R_drewN | apply Kd.R_drew)); exact HO234.out))) (below_size (by repeat (first | (with_reducible first | exact HB.out | apply below_alloc | apply pw_below_drewN | apply below_drew1 | refine below_set ?_ GE228.out) | exact HB.out)))); have n3_ := Aside0.mk (blk_below (g := gb228) (o := .cells #[.int .i64 t223, .slice Ao17 t224.length co17] 25 (0, 0)) (by (with_reducible repeat (first | refine blk_drewN ?_ _ | refine blk_drew ?_ | refine blk_alloc ?_ _)); exact BK228.out) hb); have n4_ := Aside0.mk (below_step (by repeat (first | (with_reducible first | exact HB.out | apply below_alloc | apply pw_below_drewN | apply below_drew1 | refine below_set ?_ GE228.out) | exact HB.out)) hb); clear HO226; clear HO234; clear BK228; clear HB; have HO226 := n0_; have HO234 := n1_; have HO238 := n2_; have BK228 := n3_; have HB := n4_; clear n0_ n1_ n2_ n3_ n4_; (try clear hb); (try clear hb2); (try clear hk); (try clear hi); (try clear ho0); have hcz21_0 : w20.cell? ⟨gb228, 0, none⟩ = some (.int .i64 t223) := (blk_cell BK228.out 0).trans rfl; have hcz21_1 : w20.cell? ⟨gb228, 1, none⟩ = some (.slice Ao17 t224.length co17) := (blk_cell BK228.out 1).trans rfl; have hfz21_0 := blk_frozen BK228.out 0; have hfz21_1 := blk_frozen BK228.out 1) | ((with_reducible refine gate_callee (f := 32) rfl ?_); refine goesL_ (some 53) rfl rfl Try.func32 (by kernel_rfl) rfl #[.agg #[.int .i64 t223, .slice Ao17 t224.length co17], .int .i64 t229, .int .i64 (wrap64 (t230 + t231))] rfl (by (try simp only [List.map_toArray, List.map_cons, List.map_nil]); first | done | rfl | (simp only [List.length_drop, List.length_take]; rfl)) ?_; (with_reducible refine (table_Urgent.calls t223 _ _ t224 t229 (wrap64 (t230 + t231)) t240 t243 _ ?side1 ?side2 A12.out).mono ?_); (case side1 => repeat (first | exact (Kd.R_reads' HO226.out).2.2 | (with_reducible refine Kd.C_alloc ?_ _) | (with_reducible refine Kd.C_drewN ?_ _) | (with_reducible refine Kd.C_drew ?_))); (case side2 => exact (Kd.R_reads' HO226.out).2.1); rintro e w22 ⟨v241, rfl, ho0, hb⟩; refine ⟨_, rfl, ?_⟩; have n0_ := Aside0.mk (Kd.R_elder' (by (with_reducible repeat (first | apply Kd.R_alloc | apply Kd.R_drewN | apply Kd.R_drew)); exact HO226.out) (Kd.R_base ho0) hb); have n1_ := Aside0.mk (Kd.R_elder' (by (with_reducible repeat (first | apply Kd.R_alloc | apply Kd.R_drewN | apply Kd.R_drew)); exact HO234.out) (Kd.R_base ho0) hb); have n2_ := Aside0.mk (Kd.R_elder' (by (with_reducible repeat (first | apply Kd.R_alloc | apply Kd.R_drewN | apply Kd.R_drew)); exact HO238.out) (Kd.R_base ho0) hb); have n3_ := Aside0.mk (Kd.R_lower (Kd.R_new' (Kd.R_new' (Kd.R_new' ho0 (Kd.R_lt (by (with_reducible repeat (first | apply Kd.R_alloc | apply Kd.R_drewN | apply Kd.R_drew)); exact HO226.out))) (Kd.R_lt (by (with_reducible repeat (first | apply Kd.R_alloc | apply Kd.R_drewN | apply Kd.R_drew)); exact HO234.out))) (Kd.R_lt (by (with_reducible repeat (first | apply Kd.R_alloc | apply Kd.R_drewN | apply Kd.R_drew)); exact HO238.out))) (below_size (by repeat (first | (with_reducible first | exact HB.out | apply below_alloc | apply pw_below_drewN | apply below_drew1 | refine below_set ?_ GE228.out) | exact HB.out)))); have n4_ := Aside0.mk (blk_below (g := gb228) (o := .cells #[.int .i64 t223, .slice Ao17 t224.length co17] 25 (0, 0)) (by (with_reducible repeat (first | refine blk_drewN ?_ _ | refine blk_drew ?_ | refine blk_alloc ?_ _)); exact BK228.out) hb); have n5_ := Aside0.mk (below_step (by repeat (first | (with_reducible first | exact HB.out | apply below_alloc | apply pw_below_drewN | apply below_drew1 | refine below_set ?_ GE228.out) | exact HB.out)) hb); clear HO226; clear HO234; clear HO238; clear BK228; clear HB; have HO226 := n0_; have HO234 := n1_; have HO238 := n2_; have HO242 := n3_; have BK228 := n4_; have HB := n5_; clear n0_ n1_ n2_ n3_ n4_ n5_; (try clear hb); (try clear hb2); (try clear hk); (try clear hi); (try clear ho0)))
  (try simp only [Act.put, List.setIfInBounds_toArray, List.set_cons_zero, List.set_cons_succ])
  go_cut [101] (fun v101 wc => ∃ (kq : Nat) (x101_12 : Bool), v101 = .bool x101_12 ∧ Aside0 (L21_TableUrgent.j0 kq t229 t230 t232 t236 x101_12 = some true) ∧ Aside0 (kq ≤ k) ∧ Aside0 (Kd.R k29 29 wc w.heap.size (fun k_ => some k_ ≠ (v237 : Value).ownBlock ∧ some k_ ≠ ((.slice Ao17 t224.length co17) : Value).ownBlock) v233 t232) ∧ Aside0 (Kd.R k29 29 wc w.heap.size (fun k_ => some k_ ≠ (v233 : Value).ownBlock ∧ some k_ ≠ ((.slice Ao17 t224.length co17) : Value).ownBlock) v237 t236) ∧ Aside0 (Kd.R k29 29 wc w.heap.size (fun k_ => some k_ ≠ (v233 : Value).ownBlock ∧ some k_ ≠ (v237 : Value).ownBlock) (.slice Ao17 t224.length co17) t224) ∧ Aside0 (wc.heap[gb228]? = some (.cells #[.int .i64 t223, (.slice Ao17 t224.length co17)] 25 (0, 0))) ∧ Aside0 (Below w.heap.size w wc))
  case first =>
    have H := HC13.out
    clear HC13
    by_cases c23 : t227 = true
    · subst c23
      have H1 : (if t235 = 0 then (if t239 = 0 then (if t243 = 0 then (if (t240.length : Int) > (t236.length : Int) then (L21_TableUrgent.j0 k t229 t230 t232 t236 true) else (if (t236.length : Int) > (t232.length : Int) then (L21_TableUrgent.j0 k t229 t230 t232 t236 true) else (if 0 ≤ (t236.length : Int) then (if (t236.length : Int) ≤ (t232.length : Int) then ((K_SameCallsIn.f k t236 (t232.take ((t236.length : Int) : Int).toNat)).bind fun t248 => (if t248 = true then (if 0 ≤ (t240.length : Int) then (if (t240.length : Int) ≤ (t236.length : Int) then ((K_SameCallsIn.f k t240 (t236.take ((t240.length : Int) : Int).toNat)).bind fun t253 => (L21_TableUrgent.j0 k t229 t230 t232 t236 (!t253))) else (none)) else (none)) else (L21_TableUrgent.j0 k t229 t230 t232 t236 true))) else (none)) else (none)))) else (L21_TableUrgent.j0 k t229 t230 t232 t236 true)) else (L21_TableUrgent.j0 k t229 t230 t232 t236 true)) else (L21_TableUrgent.j0 k t229 t230 t232 t236 true)) = some true := by rw [if_pos rfl] at H; exact H
      clear H
      have H := H1
      clear H1
      by_cases c24 : t235 = 0
      · rw [if_pos c24] at H
        have c24b0 : (t235 == 0) = true := beq_iff_eq.mpr c24
        have c24b1 : (t235 != 0) = false := bne_eq_false_iff_eq.mpr c24
        clear c24
        (first | rw [c24b0] | (simp only [i64_w, i32_w]; rw [c24b0]) | skip)
        by_cases c25 : t239 = 0
        · rw [if_pos c25] at H
          have c25b0 : (t239 == 0) = true := beq_iff_eq.mpr c25
          have c25b1 : (t239 != 0) = false := bne_eq_false_iff_eq.mpr c25
          clear c25
          by_cases c26 : t243 = 0
          · rw [if_pos c26] at H
            have c26b0 : (t243 == 0) = true := beq_iff_eq.mpr c26
            have c26b1 : (t243 != 0) = false := bne_eq_false_iff_eq.mpr c26
            clear c26
            by_cases c27 : (t240.length : Int) > (t236.length : Int)
            · rw [if_pos c27] at H
              have c27b0 : decide ((t236.length : Int) < (t240.length : Int)) = true := decide_eq_true c27
              have c27b1 : decide (t236.length < t240.length) = true := decide_eq_true (Int.ofNat_lt.mp c27)
              clear c27
              exact absurd H (by repeat (first | exact never_none | exact never_false | refine never_ite ?_ ?_ | refine never_bind (fun _ => ?_) | exact L21_TableUrgent.j0_d101true _ _ _ _ _))
            · rw [if_neg c27] at H
              have c27b0 : decide ((t236.length : Int) < (t240.length : Int)) = false := decide_eq_false c27
              have c27b1 : decide (t236.length < t240.length) = false := decide_eq_false (fun h => c27 (Int.ofNat_lt.mpr h))
              clear c27
              by_cases c28 : (t236.length : Int) > (t232.length : Int)
              · rw [if_pos c28] at H
                have c28b0 : decide ((t232.length : Int) < (t236.length : Int)) = true := decide_eq_true c28
                have c28b1 : decide (t232.length < t236.length) = true := decide_eq_true (Int.ofNat_lt.mp c28)
                clear c28
                exact absurd H (by repeat (first | exact never_none | exact never_false | refine never_ite ?_ ?_ | refine never_bind (fun _ => ?_) | exact L21_TableUrgent.j0_d101true _ _ _ _ _))
              · rw [if_neg c28] at H
                have c28b0 : decide ((t232.length : Int) < (t236.length : Int)) = false := decide_eq_false c28
                have c28b1 : decide (t232.length < t236.length) = false := decide_eq_false (fun h => c28 (Int.ofNat_lt.mpr h))
                clear c28
                by_cases c29 : 0 ≤ (t236.length : Int)
                · rw [if_pos c29] at H
                  have c29b0 := eq_true c29
                  have c29b1 : decide (0 ≤ (t236.length : Int)) = true := decide_eq_true c29
                  clear c29
                  by_cases c30 : (t236.length : Int) ≤ (t232.length : Int)
                  · rw [if_pos c30] at H
                    have c30b0 := eq_true c30
                    have c30b1 : decide ((t236.length : Int) ≤ (t232.length : Int)) = true := decide_eq_true c30
                    clear c30
                    obtain ⟨y244, hy244⟩ : ∃ y_ : List (S29), y_ = (t232.take ((t236.length : Int) : Int).toNat) := ⟨_, rfl⟩
                    replace H : ((K_SameCallsIn.f k t236 y244).bind fun t248 => (if t248 = true then (if 0 ≤ (t240.length : Int) then (if (t240.length : Int) ≤ (t236.length : Int) then ((K_SameCallsIn.f k t240 (t236.take ((t240.length : Int) : Int).toNat)).bind fun t253 => (L21_TableUrgent.j0 k t229 t230 t232 t236 (!t253))) else (none)) else (none)) else (L21_TableUrgent.j0 k t229 t230 t232 t236 true))) = some true := by first | (rw [hy244]; with_reducible exact H) | (have H2_ := (Option.bind_some _ _).symm.trans H; rw [hy244]; with_reducible exact H2_) | (have H2_ := (Option.bind_some _ _).symm.trans H; with_reducible exact H2_) | with_reducible exact H | (rw [hy244]; exact H) | exact H
                    have Ny244 := Aside0.mk hy244
                    clear hy244
                    replace H := Option.bind_eq_some_iff.mp H
                    obtain ⟨t248, A310, H⟩ := H
                    replace H : (if t248 = true then (if 0 ≤ (t240.length : Int) then (if (t240.length : Int) ≤ (t236.length : Int) then ((K_SameCallsIn.f k t240 (t236.take ((t240.length : Int) : Int).toNat)).bind fun t253 => (L21_TableUrgent.j0 k t229 t230 t232 t236 (!t253))) else (none)) else (none)) else (L21_TableUrgent.j0 k t229 t230 t232 t236 true)) = some true := H
                    have A31 := Aside0.mk A310
                    clear A310
                    by_cases c32 : t248 = true
                    · subst c32
                      have H1 : (if 0 ≤ (t240.length : Int) then (if (t240.length : Int) ≤ (t236.length : Int) then ((K_SameCallsIn.f k t240 (t236.take ((t240.length : Int) : Int).toNat)).bind fun t253 => (L21_TableUrgent.j0 k t229 t230 t232 t236 (!t253))) else (none)) else (none)) = some true := by rw [if_pos rfl] at H; exact H
                      clear H
                      have H := H1
                      clear H1
                      by_cases c33 : 0 ≤ (t240.length : Int)
                      · rw [if_pos c33] at H
                        have c33b0 := eq_true c33
                        have c33b1 : decide (0 ≤ (t240.length : Int)) = true := decide_eq_true c33
                        clear c33
                        by_cases c34 : (t240.length : Int) ≤ (t236.length : Int)
                        · rw [if_pos c34] at H
                          have c34b0 := eq_true c34
                          have c34b1 : decide ((t240.length : Int) ≤ (t236.length : Int)) = true := decide_eq_true c34
                          clear c34
                          obtain ⟨y249, hy249⟩ : ∃ y_ : List (S29), y_ = (t236.take ((t240.length : Int) : Int).toNat) := ⟨_, rfl⟩
                          replace H : ((K_SameCallsIn.f k t240 y249).bind fun t253 => (L21_TableUrgent.j0 k t229 t230 t232 t236 (!t253))) = some true := by first | (rw [hy249]; with_reducible exact H) | (have H2_ := (Option.bind_some _ _).symm.trans H; rw [hy249]; with_reducible exact H2_) | (have H2_ := (Option.bind_some _ _).symm.trans H; with_reducible exact H2_) | with_reducible exact H | (rw [hy249]; exact H) | exact H
                          have Ny249 := Aside0.mk hy249
                          clear hy249
                          replace H := Option.bind_eq_some_iff.mp H
                          obtain ⟨t253, A350, H⟩ := H
                          replace H : (L21_TableUrgent.j0 k t229 t230 t232 t236 (!t253)) = some true := H
                          have A35 := Aside0.mk A350
                          clear A350
                          have H' := Aside0.mk H
                          clear H
                          obtain ⟨Ao36, co36, eo36⟩ := Kd.R_slice HO242.out
                          subst eo36
                          obtain ⟨Ao37, co37, eo37⟩ := Kd.R_slice HO238.out
                          subst eo37
                          obtain ⟨Ao38, co38, eo38⟩ := Kd.R_slice HO234.out
                          subst eo38
                          have q39 : ((t236.length : Int) : Int) ≤ ((t232.length : Int) : Int) := of_decide_eq_true (by first | (with_reducible assumption) | assumption)
                          obtain ⟨i039, hi039, _, hsz39, _⟩ := info_parts info29
                          have hroom39 : t232.length ≤ co38 := (Kd.R_reads' HO234.out).2.1
                          have hC39 : Kd.C k29 _ Ao38 t232.length t232 := (Kd.R_reads' HO234.out).2.2
                          have hcut39 := cut_to (P := Try.prog) 23 29 .i64 Try.underlying23 hi039 Ao38 t232.length co38 (t236.length : Int) (of_decide_eq_true (by first | (with_reducible assumption) | assumption)) q39 hroom39
                          have hr39 := Kd.C_take (m := ((t236.length : Int) : Int).toNat) hC39 (by omega)
                          have hy39 : y244.length = ((t236.length : Int) : Int).toNat := (by rw [Ny244.out, List.length_take]; omega)
                          rw [← Ny244.out] at hr39
                          rw [← hy39] at hcut39
                          have HR247 := Aside0.mk hr39
                          have HC247 := Aside0.mk (show y244.length ≤ co38 from by omega)
                          clear hr39 hC39 hroom39 hi039 hsz39
                          have KY39 := Aside0.mk hy39
                          clear hy39
                          have KL39 := Aside0.mk (show ((t236.length : Int) : Int).toNat ≤ t232.length from by omega)
                          replace q39 := eq_true q39
                          go_wp2_with (first | ((with_reducible refine gate_callee (f := 33) rfl ?_); (with_reducible refine gate_dst (N := 90) rfl ?_); refine gate_guard (by rfl) ?_; dsimp only; refine goesL_ (some 90) rfl rfl Try.func33 (by kernel_rfl) rfl #[.slice Ao37 t236.length co37, .slice Ao38 y244.length co38] rfl (by (try simp only [List.map_toArray, List.map_cons, List.map_nil]); first | done | rfl | (simp only [List.length_drop, List.length_take]; rfl)) ?_; (with_reducible refine (K_SameCallsIn.calls k _ _ t236 _ _ y244 true _ ?side1 ?side2 ?side3 ?side4 A31.out).mono ?_); (case side1 => repeat (first | exact (Kd.R_reads' HO238.out).2.2 | (with_reducible refine Kd.C_alloc ?_ _) | (with_reducible refine Kd.C_drewN ?_ _) | (with_reducible refine Kd.C_drew ?_))); (case side2 => exact (Kd.R_reads' HO238.out).2.1); (case side3 => repeat (first | exact (by repeat (first | (with_reducible exact HR247.out) | (with_reducible refine Kd.C_alloc ?_ _) | (with_reducible refine Kd.C_drewN ?_ _) | (with_reducible refine Kd.C_drew ?_) | exact HR247.out)) | (with_reducible refine Kd.C_alloc ?_ _) | (with_reducible refine Kd.C_drewN ?_ _) | (with_reducible refine Kd.C_drew ?_))); (case side4 => exact HC247.out); rintro e w' ⟨rfl, ⟨nd, rfl⟩⟩; refine ⟨_, rfl, ?_⟩; have q40 : ((t240.length : Int) : Int) ≤ ((t236.length : Int) : Int) := of_decide_eq_true (by first | (with_reducible assumption) | assumption); obtain ⟨i040, hi040, _, hsz40, _⟩ := info_parts info29; have hroom40 : t236.length ≤ co37 := (Kd.R_reads' HO238.out).2.1; have hC40 : Kd.C k29 _ Ao37 t236.length t236 := (Kd.R_reads' HO238.out).2.2; have hcut40 := cut_to (P := Try.prog) 23 29 .i64 Try.underlying23 hi040 Ao37 t236.length co37 (t240.length : Int) (of_decide_eq_true (by first | (with_reducible assumption) | assumption)) q40 hroom40; have hr40 := Kd.C_take (m := ((t240.length : Int) : Int).toNat) hC40 (by omega); have hy40 : y249.length = ((t240.length : Int) : Int).toNat := (by rw [Ny249.out, List.length_take]; omega); rw [← Ny249.out] at hr40; rw [← hy40] at hcut40; have HR252 := Aside0.mk hr40; have HC252 := Aside0.mk (show y249.length ≤ co37 from by omega); clear hr40 hC40 hroom40 hi040 hsz40; have KY40 := Aside0.mk hy40; clear hy40; have KL40 := Aside0.mk (show ((t240.length : Int) : Int).toNat ≤ t236.length from by omega); replace q40 := eq_true q40) | ((with_reducible refine gate_callee (f := 33) rfl ?_); (with_reducible refine gate_dst (N := 99) rfl ?_); refine gate_guard (by rfl) ?_; dsimp only; refine goesL_ (some 99) rfl rfl Try.func33 (by kernel_rfl) rfl #[.slice Ao36 t240.length co36, .slice Ao37 y249.length co37] rfl (by (try simp only [List.map_toArray, List.map_cons, List.map_nil]); first | done | rfl | (simp only [List.length_drop, List.length_take]; rfl)) ?_; (with_reducible refine (K_SameCallsIn.calls k _ _ t240 _ _ y249 t253 _ ?side1 ?side2 ?side3 ?side4 A35.out).mono ?_); (case side1 => repeat (first | exact (Kd.R_reads' HO242.out).2.2 | (with_reducible refine Kd.C_alloc ?_ _) | (with_reducible refine Kd.C_drewN ?_ _) | (with_reducible refine Kd.C_drew ?_))); (case side2 => exact (Kd.R_reads' HO242.out).2.1); (case side3 => repeat (first | exact (by repeat (first | (with_reducible exact HR252.out) | (with_reducible refine Kd.C_alloc ?_ _) | (with_reducible refine Kd.C_drewN ?_ _) | (with_reducible refine Kd.C_drew ?_) | exact HR252.out)) | (with_reducible refine Kd.C_alloc ?_ _) | (with_reducible refine Kd.C_drewN ?_ _) | (with_reducible refine Kd.C_drew ?_))); (case side4 => exact HC252.out); rintro e w' ⟨rfl, ⟨nd, rfl⟩⟩; refine ⟨_, rfl, ?_⟩))
                          go_meet
                          case rel => exact ⟨_, (!t253), (by first | rfl | (simp; done) | (simp [*]; done)), H', ⟨by first | omega | exact Nat.le_refl _⟩, ⟨by (with_reducible repeat (first | apply Kd.R_alloc | apply Kd.R_drewN | apply Kd.R_drew)); exact Kd.R_mono HO234.out (fun _ hk => ⟨hk.1.2, hk.1.1.2⟩)⟩, ⟨by (with_reducible repeat (first | apply Kd.R_alloc | apply Kd.R_drewN | apply Kd.R_drew)); exact Kd.R_mono HO238.out (fun _ hk => ⟨hk.1.2, hk.1.1.2⟩)⟩, ⟨by (with_reducible repeat (first | apply Kd.R_alloc | apply Kd.R_drewN | apply Kd.R_drew)); exact Kd.R_mono HO226.out (fun _ hk => ⟨hk.1.1.2, hk.1.2⟩)⟩, ⟨by (with_reducible repeat (first | refine blk_drewN ?_ _ | refine blk_drew ?_ | refine blk_alloc ?_ _)); exact BK228.out⟩, ⟨by repeat (first | (with_reducible first | exact HB.out | apply below_alloc | apply pw_below_drewN | apply below_drew1 | refine below_set ?_ GE228.out) | exact HB.out)⟩⟩
                        · rw [if_neg c34] at H
                          exact absurd H (by repeat (first | exact never_none | exact never_false | refine never_ite ?_ ?_ | refine never_bind (fun _ => ?_) | exact L21_TableUrgent.j0_d101true _ _ _ _ _))
                      · rw [if_neg c33] at H
                        exact absurd H (by repeat (first | exact never_none | exact never_false | refine never_ite ?_ ?_ | refine never_bind (fun _ => ?_) | exact L21_TableUrgent.j0_d101true _ _ _ _ _))
                    · replace c32 := Bool.eq_false_iff.mpr c32
                      subst c32
                      have H1 : (L21_TableUrgent.j0 k t229 t230 t232 t236 true) = some true := by rw [if_neg (show ¬ (false = true) by decide)] at H; exact H
                      clear H
                      have H := H1
                      clear H1
                      exact absurd H (by repeat (first | exact never_none | exact never_false | refine never_ite ?_ ?_ | refine never_bind (fun _ => ?_) | exact L21_TableUrgent.j0_d101true _ _ _ _ _))
                  · rw [if_neg c30] at H
                    exact absurd H (by repeat (first | exact never_none | exact never_false | refine never_ite ?_ ?_ | refine never_bind (fun _ => ?_) | exact L21_TableUrgent.j0_d101true _ _ _ _ _))
                · rw [if_neg c29] at H
                  exact absurd H (by repeat (first | exact never_none | exact never_false | refine never_ite ?_ ?_ | refine never_bind (fun _ => ?_) | exact L21_TableUrgent.j0_d101true _ _ _ _ _))
          · rw [if_neg c26] at H
            have c26b0 : (t243 == 0) = false := beq_eq_false_iff_ne.mpr c26
            have c26b1 : (t243 != 0) = true := bne_iff_ne.mpr c26
            exact absurd H (by repeat (first | exact never_none | exact never_false | refine never_ite ?_ ?_ | refine never_bind (fun _ => ?_) | exact L21_TableUrgent.j0_d101true _ _ _ _ _))
        · rw [if_neg c25] at H
          have c25b0 : (t239 == 0) = false := beq_eq_false_iff_ne.mpr c25
          have c25b1 : (t239 != 0) = true := bne_iff_ne.mpr c25
          exact absurd H (by repeat (first | exact never_none | exact never_false | refine never_ite ?_ ?_ | refine never_bind (fun _ => ?_) | exact L21_TableUrgent.j0_d101true _ _ _ _ _))
      · rw [if_neg c24] at H
        have c24b0 : (t235 == 0) = false := beq_eq_false_iff_ne.mpr c24
        have c24b1 : (t235 != 0) = true := bne_iff_ne.mpr c24
        (first | rw [c24b0] | (simp only [i64_w, i32_w]; rw [c24b0]) | skip)
        exact absurd H (by repeat (first | exact never_none | exact never_false | refine never_ite ?_ ?_ | refine never_bind (fun _ => ?_) | exact L21_TableUrgent.j0_d101true _ _ _ _ _))
    · replace c23 := Bool.eq_false_iff.mpr c23
      subst c23
      have H1 : (L21_TableUrgent.j0 k t229 t230 t232 t236 true) = some true := by rw [if_neg (show ¬ (false = true) by decide)] at H; exact H
      clear H
      have H := H1
      clear H1
      exact absurd H (by repeat (first | exact never_none | exact never_false | refine never_ite ?_ ?_ | refine never_bind (fun _ => ?_) | exact L21_TableUrgent.j0_d101true _ _ _ _ _))
  case rest =>
    clear HC13
    try clear c1
    try clear c2
    try clear p2
    try clear c3
    try clear q3
    try clear c4
    try clear q4
    try clear p6
    try clear c23
    try clear c24
    try clear c24b0
    try clear c24b1
    try clear c25
    try clear c25b0
    try clear c25b1
    try clear c26
    try clear c26b0
    try clear c26b1
    try clear c27
    try clear c27b0
    try clear c27b1
    try clear c28
    try clear c28b0
    try clear c28b1
    try clear c29
    try clear c29b0
    try clear c29b1
    try clear c30
    try clear c30b0
    try clear c30b1
    try clear c31
    try clear c32
    try clear c33
    try clear c33b0
    try clear c33b1
    try clear c34
    try clear c34b0
    try clear c34b1
    try clear q39
    try clear q40
    try clear hcz16_0
    try clear hcz16_1
    try clear hcz19_0
    try clear hcz19_1
    try clear hcz21_0
    try clear hcz21_1
    try clear hfz16_0
    try clear hfz16_1
    try clear hfz19_0
    try clear hfz19_1
    try clear hfz21_0
    try clear hfz21_1
    try clear q39
    try clear q40
    obtain ⟨kq, x101_12, rfl, HA, HJ12, HO_16, HO_18, HO_229001, BK228, HB⟩ := hcut
    cases kq with
    | zero => exact absurd HA.out (by simp [L21_TableUrgent.j0])
    | succ kj12 =>
      have H := HA.out
      clear HA
      simp only [L21_TableUrgent.j0] at H
      by_cases c41 : x101_12 = true
      · subst c41
        have H1 : (some false) = some true := by rw [if_pos rfl] at H; exact H
        clear H
        have H := H1
        clear H1
        exact absurd H (by repeat (first | exact never_none | exact never_false | refine never_ite ?_ ?_ | refine never_bind (fun _ => ?_) | exact L21_TableUrgent.j0_d101true _ _ _ _ _))
      · replace c41 := Bool.eq_false_iff.mpr c41
        subst c41
        have H1 : (L21_TableUrgent.l0 kj12 t229 t230 t232 t236 0) = some true := by rw [if_neg (show ¬ (false = true) by decide)] at H; exact H
        clear H
        have H := H1
        clear H1
        have H' := Aside0.mk H
        clear H
        go_wp2
        go_loopg [22] kj12 (fun kq v22 w' => ∃ (x22_2 : Int), v22 = .int .i64 x22_2 ∧ Aside0 (L21_TableUrgent.l0 kq t229 t230 t232 t236 x22_2 = some true) ∧ Aside0 (kq ≤ kj12) ∧ Aside0 (Kd.R k29 29 w' w.heap.size (fun k_ => some k_ ≠ (v237 : Value).ownBlock ∧ some k_ ≠ ((.slice Ao17 t224.length co17) : Value).ownBlock) v233 t232) ∧ Aside0 (Kd.R k29 29 w' w.heap.size (fun k_ => some k_ ≠ (v233 : Value).ownBlock ∧ some k_ ≠ ((.slice Ao17 t224.length co17) : Value).ownBlock) v237 t236) ∧ Aside0 (Kd.R k29 29 w' w.heap.size (fun k_ => some k_ ≠ (v233 : Value).ownBlock ∧ some k_ ≠ (v237 : Value).ownBlock) (.slice Ao17 t224.length co17) t224) ∧ Aside0 (w'.heap[gb228]? = some (.cells #[.int .i64 t223, (.slice Ao17 t224.length co17)] 25 (0, 0))) ∧ Aside0 (Below w.heap.size w w'))
        case atStart => exact ⟨(0), (by first | rfl | (simp; done) | (simp [*]; done)), H', ⟨Nat.le_refl _⟩, ⟨by (with_reducible repeat (first | apply Kd.R_alloc | apply Kd.R_drewN | apply Kd.R_drew)); exact HO_16.out⟩, ⟨by (with_reducible repeat (first | apply Kd.R_alloc | apply Kd.R_drewN | apply Kd.R_drew)); exact HO_18.out⟩, ⟨by (with_reducible repeat (first | apply Kd.R_alloc | apply Kd.R_drewN | apply Kd.R_drew)); exact HO_229001.out⟩, ⟨by (with_reducible repeat (first | refine blk_drewN ?_ _ | refine blk_drew ?_ | refine blk_alloc ?_ _)); exact BK228.out⟩, ⟨by repeat (first | (with_reducible first | exact HB.out | apply below_alloc | apply pw_below_drewN | apply below_drew1 | refine below_set ?_ GE228.out) | exact HB.out)⟩⟩
        case round =>
          clear H'
          try clear c1
          try clear c2
          try clear p2
          try clear c3
          try clear q3
          try clear c4
          try clear q4
          try clear p6
          try clear c23
          try clear c24
          try clear c24b0
          try clear c24b1
          try clear c25
          try clear c25b0
          try clear c25b1
          try clear c26
          try clear c26b0
          try clear c26b1
          try clear c27
          try clear c27b0
          try clear c27b1
          try clear c28
          try clear c28b0
          try clear c28b1
          try clear c29
          try clear c29b0
          try clear c29b1
          try clear c30
          try clear c30b0
          try clear c30b1
          try clear c31
          try clear c32
          try clear c33
          try clear c33b0
          try clear c33b1
          try clear c34
          try clear c34b0
          try clear c34b1
          try clear q39
          try clear q40
          try clear c41
          try clear hcz16_0
          try clear hcz16_1
          try clear hcz19_0
          try clear hcz19_1
          try clear hcz21_0
          try clear hcz21_1
          try clear hfz16_0
          try clear hfz16_1
          try clear hfz19_0
          try clear hfz19_1
          try clear hfz21_0
          try clear hfz21_1
          try clear p2
          try clear p6
          try clear q3
          try clear q39
          try clear q4
          try clear q40
          obtain ⟨x22_2, rfl, HA, HK2, HO_16, HO_18, HO_229001, BK228, HB⟩ := hrel
          cases gk with
          | zero => exact absurd HA.out (by simp [L21_TableUrgent.l0])
          | succ k2 =>
            have H := HA.out
            clear HA
            simp only [L21_TableUrgent.l0] at H
            by_cases c42 : x22_2 < (t232.length : Int)
            · rw [if_pos c42] at H
              have c42b0 : decide (x22_2 < (t232.length : Int)) = true := decide_eq_true c42
              clear c42
              by_cases c43 : 0 ≤ x22_2
              · rw [if_pos c43] at H
                have c43b0 : decide (0 ≤ x22_2) = true := decide_eq_true c43
                clear c43
                by_cases c44 : ((decide ((wrap64 (t229 - ((rd_T29 t232 x22_2).f3))) ≥ t230)) != (decide (x22_2 < (t236.length : Int)))) = true
                · rw [if_pos c44] at H
                  have c44b0 : ((decide ((wrap64 (t229 - ((rd_T29 t232 x22_2).f3))) ≥ t230)) != (decide (x22_2 < (t236.length : Int)))) = true := c44
                  (try (have c44b1 : decide ((decide ((wrap64 (t229 - ((rd_T29 t232 x22_2).f3))) ≥ t230)) = (decide (x22_2 < (t236.length : Int)))) = false := by simpa using c44))
                  (try (have c44b2 : ((decide ((wrap64 (t229 - ((rd_T29 t232 x22_2).f3))) ≥ t230)) == (decide (x22_2 < (t236.length : Int)))) = false := by simpa using c44))
                  (try (have c44b3 : ¬ ((decide ((wrap64 (t229 - ((rd_T29 t232 x22_2).f3))) ≥ t230)) = (decide (x22_2 < (t236.length : Int)))) := by simpa using c44))
                  clear c44
                  exact absurd H (by repeat (first | exact never_none | exact never_false | refine never_ite ?_ ?_ | refine never_bind (fun _ => ?_) | exact L21_TableUrgent.j0_d101true _ _ _ _ _))
                · rw [if_neg c44] at H
                  have c44b0 : ((decide ((wrap64 (t229 - ((rd_T29 t232 x22_2).f3))) ≥ t230)) != (decide (x22_2 < (t236.length : Int)))) = false := by simpa using c44
                  (try (have c44b1 : decide ((decide ((wrap64 (t229 - ((rd_T29 t232 x22_2).f3))) ≥ t230)) = (decide (x22_2 < (t236.length : Int)))) = true := by simpa using c44))
                  (try (have c44b2 : ((decide ((wrap64 (t229 - ((rd_T29 t232 x22_2).f3))) ≥ t230)) == (decide (x22_2 < (t236.length : Int)))) = true := by simpa using c44))
                  clear c44
                  by_cases c45 : ((rd_T29 t232 x22_2).f0) = 3
                  · rw [if_pos c45] at H
                    have c45b0 : (((rd_T29 t232 x22_2).f0) == 3) = true := beq_iff_eq.mpr c45
                    have c45b1 : (((rd_T29 t232 x22_2).f0) != 3) = false := bne_eq_false_iff_eq.mpr c45
                    clear c45
                    exact absurd H (by repeat (first | exact never_none | exact never_false | refine never_ite ?_ ?_ | refine never_bind (fun _ => ?_) | exact L21_TableUrgent.j0_d101true _ _ _ _ _))
                  · rw [if_neg c45] at H
                    have c45b0 : (((rd_T29 t232 x22_2).f0) == 3) = false := beq_eq_false_iff_ne.mpr c45
                    have c45b1 : (((rd_T29 t232 x22_2).f0) != 3) = true := bne_iff_ne.mpr c45
                    have H' := Aside0.mk H
                    clear H
                    obtain ⟨Ao46, co46, eo46⟩ := Kd.R_slice HO_16.out
                    subst eo46
                    have p254 : 0 ≤ (x22_2 : Int) := of_decide_eq_true (by first | (with_reducible assumption) | assumption)
                    have q254 : x22_2 < (t232.length : Int) := of_decide_eq_true (by first | (with_reducible assumption) | assumption)
                    obtain ⟨ad254, e254, hx254_0, hx254_1, hx254_2, hx254_3⟩ := at_T29 (Kd.R_reads' HO_16.out).2.2 x22_2 p254 q254
                    cases e254
                    replace p254 := eq_true p254
                    replace q254 := eq_true q254
                    obtain ⟨Ao47, co47, eo47⟩ := Kd.R_slice HO_18.out
                    subst eo47
                    have p255 : 0 ≤ (x22_2 : Int) := of_decide_eq_true (by first | (with_reducible assumption) | assumption)
                    have q255 : x22_2 < (t232.length : Int) := of_decide_eq_true (by first | (with_reducible assumption) | assumption)
                    obtain ⟨ad255, e255, hx255_0, hx255_1, hx255_2, hx255_3⟩ := at_T29 (Kd.R_reads' HO_16.out).2.2 x22_2 p255 q255
                    obtain rfl : ad254 = ad255 := (by injection e255)
                    replace p255 := eq_true p255
                    replace q255 := eq_true q255
                    go_wp2
                    go_roundg k2
                    case measure => have := HJ12.out; have := HK2.out; omega
                    case rel => exact ⟨(wrap64 (x22_2 + 1)), (by first | rfl | (simp; done) | (simp [*]; done)), H', ⟨by have := HJ12.out; have := HK2.out; omega⟩, ⟨by (with_reducible repeat (first | apply Kd.R_alloc | apply Kd.R_drewN | apply Kd.R_drew)); exact HO_16.out⟩, ⟨by (with_reducible repeat (first | apply Kd.R_alloc | apply Kd.R_drewN | apply Kd.R_drew)); exact HO_18.out⟩, ⟨by (with_reducible repeat (first | apply Kd.R_alloc | apply Kd.R_drewN | apply Kd.R_drew)); exact HO_229001.out⟩, ⟨by (with_reducible repeat (first | refine blk_drewN ?_ _ | refine blk_drew ?_ | refine blk_alloc ?_ _)); exact BK228.out⟩, ⟨by repeat (first | (with_reducible first | exact HB.out | apply below_alloc | apply pw_below_drewN | apply below_drew1 | refine below_set ?_ GE228.out) | exact HB.out)⟩⟩
              · rw [if_neg c43] at H
                exact absurd H (by repeat (first | exact never_none | exact never_false | refine never_ite ?_ ?_ | refine never_bind (fun _ => ?_) | exact L21_TableUrgent.j0_d101true _ _ _ _ _))
            · rw [if_neg c42] at H
              have c42b0 : decide (x22_2 < (t232.length : Int)) = false := decide_eq_false c42
              clear c42
              replace H := Option.bind_eq_some_iff.mp H
              obtain ⟨t256, A480, H⟩ := H
              replace H : (some t256) = some true := H
              have A48 := Aside0.mk A480
              clear A480
              have Ht_ := Option.some.inj H
              clear H
              subst Ht_
              have H : (some true : Option Bool) = some true := rfl
              clear H
              obtain ⟨Ao49, co49, eo49⟩ := Kd.R_slice HO_16.out
              subst eo49
              go_wp2_with (first | ((with_reducible refine gate_callee (f := 30) rfl ?_); refine goesL_ (some 130) rfl rfl Try.func30 (by kernel_rfl) rfl #[] rfl (by (try simp only [List.map_toArray, List.map_cons, List.map_nil]); first | done | rfl | (simp only [List.length_drop, List.length_take]; rfl)) ?_; (with_reducible refine (L21_awake.calls k2  true _ A48.out).mono ?_); rintro e w50 ⟨rfl, hb⟩; refine ⟨_, rfl, ?_⟩; have n0_ := Aside0.mk (Kd.R_below (by (with_reducible repeat (first | apply Kd.R_alloc | apply Kd.R_drewN | apply Kd.R_drew)); exact HO_16.out) hb); have n1_ := Aside0.mk (Kd.R_below (by (with_reducible repeat (first | apply Kd.R_alloc | apply Kd.R_drewN | apply Kd.R_drew)); exact HO_18.out) hb); have n2_ := Aside0.mk (Kd.R_below (by (with_reducible repeat (first | apply Kd.R_alloc | apply Kd.R_drewN | apply Kd.R_drew)); exact HO_229001.out) hb); have n3_ := Aside0.mk (blk_below (g := gb228) (o := .cells #[.int .i64 t223, .slice Ao17 t224.length co17] 25 (0, 0)) (by (with_reducible repeat (first | refine blk_drewN ?_ _ | refine blk_drew ?_ | refine blk_alloc ?_ _)); exact BK228.out) hb); have n4_ := Aside0.mk (below_step (by repeat (first | (with_reducible first | exact HB.out | apply below_alloc | apply pw_below_drewN | apply below_drew1 | refine below_set ?_ GE228.out) | exact HB.out)) hb); clear HO_16; clear HO_18; clear HO_229001; clear BK228; clear HB; have HO_16 := n0_; have HO_18 := n1_; have HO_229001 := n2_; have BK228 := n3_; have HB := n4_; clear n0_ n1_ n2_ n3_ n4_; (try clear hb); (try clear hb2); (try clear hk); (try clear hi)))
              all_goals go_ret
              all_goals exact ⟨by first | rfl | (simp [errW_none, errW_some] <;> rfl) | (simp [*, errW_none, errW_some] <;> rfl), by repeat (first | (with_reducible first | exact HB.out | apply below_alloc | apply pw_below_drewN | apply below_drew1 | refine below_set ?_ GE228.out) | exact HB.out)⟩

/-- THE ONE PURE STATEMENT of L21_TableUrgent: yours. -/
def L21_TableUrgent.Pure : Prop := ∀ (a0 : Int) (l1 : List Int) (a2 : Int) (a3 : Int) (a4 : Int), (Lit.int .i64 a0).wf = true → l1.length ≤ maxLen → l1.length * 8 ≤ 140737488351232 → (∀ x ∈ l1, (Lit.int .i64 x).wf = true) → (Lit.int .i64 a2).wf = true → (Lit.int .i64 a3).wf = true → (Lit.int .i64 a4).wf = true → ∃ k, L21_TableUrgent.f k a0 l1 a2 a3 a4 = some true
theorem L21_TableUrgent.walk (P : L21_TableUrgent.Pure) (a0 : Int) (a1 : Option Addr) (len1 cap1 : Nat) (z1 : List Int) (a2 : Int) (a3 : Int) (a4 : Int) (w : World) (w0 : (Lit.int .i64 a0).wf = true) (w1 : (a1 = none ∧ len1 = 0 ∧ cap1 = 0 ∧ z1 = []) ∨ ∃ x, a1 = some x ∧ len1 ≤ cap1 ∧ cap1 ≤ maxLen ∧ z1.length = cap1 ∧ (∀ i, i < z1.length → w.cell? (x.add i) = some (.int .i64 (z1.getD i 0))) ∧ ∀ n ∈ z1, (Lit.int .i64 n).wf = true) (y1 : len1 * 8 ≤ 140737488351232) (w2 : (Lit.int .i64 a2).wf = true) (w3 : (Lit.int .i64 a3).wf = true) (w4 : (Lit.int .i64 a4).wf = true) :
    Calls Try.prog 4 #[.int .i64 a0, .slice a1 len1 cap1, .int .i64 a2, .int .i64 a3, .int .i64 a4] w fun e w' => e = .returned (.bool true) ∧ Below w.heap.size w w' := by
  obtain ⟨l1, rfl, hr1, hm1, hw1, hc1⟩ := ReadsInt.ofRowC w1
  obtain ⟨k, h⟩ := P a0 l1 a2 a3 a4 w0 hm1 y1 hw1 w2 w3 w4
  refine (L21_TableUrgent.calls k a0 _ _ l1 a2 a3 a4 true w (Kd.C_of_reads (d := (0 : Int)) (h1 := fun _ => rfl) hr1) hc1 h).mono ?_
  rintro e w' ⟨rfl, hd⟩
  exact ⟨rfl, hd⟩

end Go.Proofs.Ytmfbpkjhabdcgaa.F
end
section
/- The plain law TableUrgent of chapter 21: the printed function answers true at every table that is made of numbers, tick and ages. No condition but those of the row. -/
namespace Go.Proofs.Ytmfbpkjhabdcgaa.Pure
open Go.RowKit Go.Proofs.Ytmfbpkjhabdcgaa.F Go.Proofs.YtmfbpkjhabdcgaaW.PrintWords Go.Proofs.YtmfbpkjhabdcgaaW.PrintLast
set_option linter.unusedVariables false
set_option linter.unusedSimpArgs false

theorem awakeU {k : Nat} (hk : 80 ≤ k) : L21_awake.f k = some true := le_fuel L21_awake.mono hk (by kernel_rfl)

theorem filt_prefix (m : Int) : ∀ L : List S29, L.Pairwise (fun x y => x.f3 ≤ y.f3) →
    L.filter (fun x => decide (x.f3 ≤ m)) = L.take (L.filter (fun x => decide (x.f3 ≤ m))).length ∧ ∀ i (h : i < L.length), (L[i].f3 ≤ m ↔ i < (L.filter (fun x => decide (x.f3 ≤ m))).length)
  | [], _ => ⟨rfl, fun i h => absurd h (by simp)⟩
  | x :: r, hp => by
    rw [List.pairwise_cons] at hp
    obtain ⟨h1, h2⟩ := filt_prefix m r hp.2
    by_cases hx : x.f3 ≤ m
    · have e : (x :: r).filter (fun x => decide (x.f3 ≤ m)) = x :: r.filter (fun x => decide (x.f3 ≤ m)) := List.filter_cons_of_pos (by simpa using hx)
      rw [e]
      refine ⟨by rw [List.length_cons, List.take_succ_cons, ← h1], fun i h => ?_⟩
      cases i with
      | zero => simp [hx]
      | succ i =>
        rw [List.getElem_cons_succ, List.length_cons]
        exact (h2 i (by simpa using h)).trans (by omega)
    · have e : (x :: r).filter (fun x => decide (x.f3 ≤ m)) = [] := by
        rw [List.filter_eq_nil_iff]
        intro y hy
        rcases List.mem_cons.1 hy with rfl | hy
        · simpa using hx
        · have := hp.1 y hy
          simp only [decide_eq_true_eq]
          omega
      rw [e]
      refine ⟨rfl, fun i h => ?_⟩
      simp only [List.length_nil, Nat.not_lt_zero, iff_false]
      cases i with
      | zero => exact hx
      | succ i =>
        rw [List.getElem_cons_succ]
        have := hp.1 (r[i]'(by simpa using h)) (List.getElem_mem _)
        omega

/-- The urgent calls of a list of ascending calls. -/
theorem urg (n a : Int) (hn : 0 ≤ n) (hn' : n ≤ 1000) (ha : 0 ≤ a) (l : List S29) (hl : ∀ x ∈ l, 0 ≤ x.f3 ∧ x.f3 ≤ 60) :
    l.filter (isUrgent n a) = (l.filter (fun x => x.f0 != 3)).filter (fun x => decide (x.f3 ≤ n - a)) := by
  rw [List.filter_filter]
  refine List.filter_congr fun x hx => ?_
  obtain ⟨h0, h1⟩ := hl x hx
  unfold isUrgent
  rw [wrap_id (by omega) (by omega)]
  by_cases h3 : x.f0 = 3
  · simp [h3]
  · by_cases hm : x.f3 ≤ n - a
    · simp [hm, h3, show x.f3 ≤ n by omega, show a ≤ n - x.f3 by omega]
    · simp [hm, show ¬ a ≤ n - x.f3 by omega]

theorem urgent_valid {a : Int} {l : List S29} (h : ValidT a l) (n g : Int) (hg : 0 ≤ g) : table_Urgent.f a l n g = some (l.filter (isUrgent n g), 0) := by
  unfold table_Urgent.f
  rw [valid_valid h]
  have := h.len; have := h.hi
  simp only [Option.bind_some, if_true]
  rw [if_neg (by omega), if_pos (by omega)]

theorem fin (n a : Int) (hn : 0 ≤ n) (hn' : n ≤ 1000) (l m : List S29) (hl : l.length ≤ 64) (h3 : ∀ x ∈ l, x.f0 ≠ 3 ∧ 0 ≤ x.f3 ∧ x.f3 ≤ 60) (hm : ∀ i (h : i < l.length), (a ≤ n - l[i].f3 ↔ i < m.length)) :
    ∀ (d k j : Nat), j + d = l.length → 81 + d ≤ k → L21_TableUrgent.l0 k n a l m j = some true
  | 0, k, j, h, hk => by
    obtain ⟨k, rfl⟩ : ∃ i, k = i + 1 := ⟨k - 1, by omega⟩
    rw [L21_TableUrgent.l0, if_neg (by omega), awakeU (by omega)]
    rfl
  | d + 1, k, j, h, hk => by
    obtain ⟨k, rfl⟩ : ∃ i, k = i + 1 := ⟨k - 1, by omega⟩
    have hj : j < l.length := by omega
    have er : rd_T29 l (j : Int) = l[j] := by simp [rd_T29, List.getD_eq_getElem?_getD, List.getElem?_eq_getElem hj]
    obtain ⟨e3, e0, e1⟩ := h3 l[j] (List.getElem_mem _)
    have ih := fin n a hn hn' l m hl h3 hm d k (j + 1) (by omega) (by omega)
    have hmj := hm j hj
    have hd : decide (n - l[j].f3 ≥ a) = decide ((j : Int) < (m.length : Int)) := by
      rw [decide_eq_decide]
      constructor
      · intro h; have := hmj.1 h; omega
      · intro h; exact hmj.2 (by omega)
    rw [L21_TableUrgent.l0, if_pos (by omega), if_pos (by omega), er, wrap_id (x := n - l[j].f3) (by omega) (by omega), hd, wrap_id (x := (j : Int) + 1) (by omega) (by omega), if_neg (by simp), if_neg e3]
    exact ih

theorem TableUrgent : L21_TableUrgent.Pure := by
  intro a0 l1 a2 a3 a4 _ _ _ _ _ _ _
  obtain ⟨k, hk⟩ : ∃ k : Nat, 1000 ≤ k := ⟨1000, Nat.le_refl _⟩
  refine ⟨k, ?_⟩
  obtain ⟨a, l, T, h1, h2, hT⟩ := made_law (k := k) (by omega) a0 l1
  obtain ⟨n, hn, n0, n1⟩ := mod_law a2 60 (by omega) (by omega)
  obtain ⟨g, hg, g0, g1⟩ := mod_law a3 60 (by omega) (by omega)
  obtain ⟨d, hd, d0, d1⟩ := mod_law a4 20 (by omega) (by omega)
  unfold L21_TableUrgent.f
  rw [h1, hn, hg, hd]
  simp only [Option.bind_some]
  have hV := h2.valid
  rw [wrap_id (x := g + d) (by omega) (by omega), urgent_valid hV 1000 0 (by omega), urgent_valid hV n g g0, urgent_valid hV n (g + d) (by omega)]
  simp only [Option.bind_some, if_true]
  have hb : ∀ x ∈ l, 0 ≤ x.f3 ∧ x.f3 ≤ 60 := fun x hx => by
    have h3 := h2.late x hx
    have h4 := hV.ok x hx
    unfold okC errC at h4
    split at h4
    · cases h4
    · split at h4
      · cases h4
      · omega
  rw [urg 1000 0 (by omega) (by omega) (by omega) l hb, urg n g n0 (by omega) g0 l hb, urg n (g + d) n0 (by omega) (by omega) l hb]
  have hS : (l.filter (fun x => x.f0 != 3)).Pairwise (fun x y => x.f3 ≤ y.f3) := hV.sorted.sublist List.filter_sublist
  have hH : ∀ x ∈ l.filter (fun x => x.f0 != 3), x.f0 ≠ 3 ∧ 0 ≤ x.f3 ∧ x.f3 ≤ 60 := fun x hx => by
    obtain ⟨q1, q2⟩ := List.mem_filter.1 hx
    exact ⟨by simpa using q2, hb x q1⟩
  have hL : (l.filter (fun x => x.f0 != 3)).length ≤ 64 := by
    have := List.length_filter_le (fun x : S29 => x.f0 != 3) l
    have := hV.len; have := hV.hi
    omega
  generalize l.filter (fun x => x.f0 != 3) = H at hS hH hL
  have e0 : H.filter (fun x => decide (x.f3 ≤ 1000 - 0)) = H := List.filter_eq_self.2 fun x hx => by
    have := (hH x hx).2.2
    simp only [decide_eq_true_eq]
    omega
  rw [e0]
  obtain ⟨p1, p2⟩ := filt_prefix (n - g) H hS
  have e2 : H.filter (fun x => decide (x.f3 ≤ n - (g + d))) = (H.filter (fun x => decide (x.f3 ≤ n - g))).filter (fun x => decide (x.f3 ≤ n - (g + d))) := by
    rw [List.filter_filter]
    refine List.filter_congr fun x hx => ?_
    by_cases hq : x.f3 ≤ n - (g + d)
    · simp [hq, show x.f3 ≤ n - g by omega]
    · simp [hq]
  obtain ⟨p3, _⟩ := filt_prefix (n - (g + d)) (H.filter (fun x => decide (x.f3 ≤ n - g))) (hS.sublist List.filter_sublist)
  rw [← e2] at p3
  have q1 : (H.filter (fun x => decide (x.f3 ≤ n - (g + d)))).length ≤ (H.filter (fun x => decide (x.f3 ≤ n - g))).length := by rw [e2]; exact List.length_filter_le _ _
  have q2 : (H.filter (fun x => decide (x.f3 ≤ n - g))).length ≤ H.length := List.length_filter_le _ _
  have hm : ∀ i (h : i < H.length), (g ≤ n - H[i].f3 ↔ i < (H.filter (fun x => decide (x.f3 ≤ n - g))).length) := fun i h => Iff.trans (by omega) (p2 i h)
  clear e2 p2 h1 hn hg hd
  generalize H.filter (fun x => decide (x.f3 ≤ n - (g + d))) = M2 at p3 q1
  generalize H.filter (fun x => decide (x.f3 ≤ n - g)) = M1 at p1 p3 q1 q2 hm
  rw [if_neg (by omega), if_neg (by omega), if_pos (by omega), if_pos (by omega), Int.toNat_natCast, ← p1, same_calls M1 (by omega) (by omega)]
  simp only [Option.bind_some, if_true]
  rw [if_pos (by omega), if_pos (by omega), Int.toNat_natCast, ← p3, same_calls M2 (by omega) (by omega)]
  obtain ⟨k, rfl⟩ : ∃ i, k = i + 1 := ⟨k - 1, by omega⟩
  simp only [Option.bind_some, Bool.not_true]
  rw [L21_TableUrgent.j0, if_neg (by decide)]
  exact fin n g n0 (by omega) H M1 hL hH hm H.length k 0 (by omega) (by omega)

end Go.Proofs.Ytmfbpkjhabdcgaa.Pure
end
section
/- The statement TableUrgent holds: the law's function answers true at every input, and the input reads as it did. No condition. (Written by fork.py over the kit's print.) -/
namespace Go.Proofs.Ytmfbpkjhabdcgaa.tableUrgent
open Go.ChangeShapes Go.WideShapes Go.ChangeAt Go.RowKit
open Go.ChangeMaps (open_string shut_string)
set_option linter.unusedVariables false
theorem own : ownKnob Try.prog.godebug = none := by kernel_rfl
theorem laidOut : laidOutB Try.prog = true := by kernel_rfl
def IsRow (k : IntKind) (w : World) (a : Option Addr) (len cap : Nat) (zs : List Int) : Prop :=
  (a = none ∧ len = 0 ∧ cap = 0 ∧ zs = []) ∨
  ∃ x, a = some x ∧ len ≤ cap ∧ cap ≤ maxLen ∧ zs.length = cap ∧ (∀ i, i < zs.length → w.cell? (x.add i) = some (.int k (zs.getD i 0))) ∧ ∀ n ∈ zs, (Lit.int k n).wf = true
set_option maxRecDepth 100000 in
theorem lifted (os : Os) (started : os.Started) (H : Type) (enc : TypeId × Value → H) :
    ReturnsInHanded {} Try.checked os 4 .any (Rows.tableUrgentSpec.pre6 enc Try.prog Try.f4 Rows.tableUrgentRow.domain false) (Rows.tableUrgentSpec.post enc Try.prog Try.f4 false true false false) := by
  refine returnsInHanded_of_change_sized (C := Try.checked) own started (by kernel_rfl) Try.func4
    (ChangeSpec.witness6 (enc := enc) (C := Try.checked) false ⟨#[], #[.int .i64 0, .slice none 0 0, .int .i64 0, .int .i64 0, .int .i64 0], []⟩ 8 (by kernel_rfl) (by kernel_rfl) (by kernel_rfl) (by kernel_rfl)) ?_
  intro W base args ds gs before hval0 hW hcnd hsz0 _
  have hsz : (DataW.weightsEach Try.prog (Try.f4.params.toList ++ Rows.tableUrgentSpec.plain.varTypes Try.prog) (ds ++ gs)).all (· ≤ reachBytes) = true := hsz0
  have hval : ∀ (j : Nat) t v, Try.f4.params[j]? = some t → args[j]? = some v → Value.okWide Try.prog W .any base t v := hval0
  have hW' := hW
  obtain ⟨p, q, hA0, hV, rfl, hfz, hnd⟩ := hW
  have hA : DataW.TrodAll enc Try.prog W 0 (fun _ => true) true Try.f4.params.toList args.toList ds p := hA0
  rw [Try.params4] at hA hval hsz
  obtain ⟨v0, vs0, d0, ds0, p0, q0, hargs, rfl, rfl, h0, r0⟩ := trodAll_cons hA
  obtain ⟨v1, vs1, d1, ds1, p1, q1, rfl, rfl, rfl, h1, r1⟩ := trodAll_cons r0
  obtain ⟨v2, vs2, d2, ds2, p2, q2, rfl, rfl, rfl, h2, r2⟩ := trodAll_cons r1
  obtain ⟨v3, vs3, d3, ds3, p3, q3, rfl, rfl, rfl, h3, r3⟩ := trodAll_cons r2
  obtain ⟨v4, vs4, d4, ds4, p4, q4, rfl, rfl, rfl, h4, r4⟩ := trodAll_cons r3
  obtain ⟨rfl, rfl, rfl⟩ := trodAll_nil r4
  obtain rfl : args = #[v0, v1, v2, v3, v4] := by cases args; simp_all
  obtain ⟨rfl, rfl⟩ := trodVars_none hV
  obtain ⟨a0, rfl, rfl, rfl, w0⟩ := open_int Try.underlying3 (hval 0 3 v0 rfl rfl) h0
  obtain ⟨a1, len1, cap1, rfl⟩ := okWide_slice Try.underlying22 (hval 1 22 v1 rfl rfl)
  have k1 := h1
  have lt1 : ∀ x ∈ p1, x.block < W.heap.size := by obtain ⟨m, hm⟩ := k1; exact DataW.trod_lt m _ _ _ hm
  obtain ⟨z1, w1⟩ : ∃ zs, IsRow .i64 W a1 len1 cap1 zs := by
    obtain ⟨fuel, hf⟩ := h1
    rcases open_ints Try.underlying22 Try.underlying3 (by kernel_rfl) hf with ⟨hcs, _⟩ | ⟨x, l, c, zs, hcs, _, hl, hm, hz, _, hcell, hwz⟩
    · simp [Value.cells] at hcs
      obtain ⟨rfl, rfl, rfl⟩ := hcs
      exact ⟨[], .inl ⟨rfl, rfl, rfl, rfl⟩⟩
    · simp [Value.cells] at hcs
      obtain ⟨rfl, rfl, rfl⟩ := hcs
      exact ⟨zs, .inr ⟨_, rfl, hl, hm, by simpa using hz, hcell, hwz⟩⟩
  have y1 : len1 * 8 ≤ 140737488351232 := Go.Proofs.YtmfbpkjhabdcgaaW.PrintWords.sized_ints hsz (j := 1) (t := 22) rfl rfl Try.underlying22 Try.underlying3 (by kernel_rfl) (by kernel_rfl) h1
  obtain ⟨a2, rfl, rfl, rfl, w2⟩ := open_int Try.underlying3 (hval 2 3 v2 rfl rfl) h2
  obtain ⟨a3, rfl, rfl, rfl, w3⟩ := open_int Try.underlying3 (hval 3 3 v3 rfl rfl) h3
  obtain ⟨a4, rfl, rfl, rfl, w4⟩ := open_int Try.underlying3 (hval 4 3 v4 rfl rfl) h4
  clear hA0 hval0 hsz0 hsz
  refine (F.L21_TableUrgent.walk Pure.TableUrgent a0 a1 len1 cap1 z1 a2 a3 a4 W w0 w1 y1 w2 w3 w4).mono fun e W' ⟨he, bel⟩ => ?_
  subst he
  exact ⟨_, rfl, _, _, _, [], _, [], hW', trodAll_mk1 (shut_bool Try.underlying4 _), (trodAll_cons_mk (shut_int Try.underlying3 w0) (trodAll_cons_mk (Below.trod laidOut (by kernel_rfl) (of_decide_eq_true (by kernel_rfl)) k1 bel lt1) (trodAll_cons_mk (shut_int Try.underlying3 w2) (trodAll_cons_mk (shut_int Try.underlying3 w3) (trodAll_cons_mk (shut_int Try.underlying3 w4) trodAll_mk0))))), rfl, bel.frame _, fun h => by cases h⟩
theorem over : Rows.tableUrgentRow.holds Try.pinned (OpenSpec.ofChange Rows.tableUrgentSpec) :=
  OpenClaim.holds_of_wide 4 Try.f4 rfl rfl rfl rfl rfl rfl rfl ⟨rfl, rfl, rfl, rfl, rfl⟩ rfl rfl rfl rfl rfl (by kernel_rfl) Try.func4 (by show joinedFacts Try.prog 4 Try.f4 Rows.tableUrgentSpec Rows.tableUrgentRow = true; unfold joinedFacts; rw [may_enter, lifts_not, make_cut]; kernel_rfl)
    (of_decide_eq_true (by kernel_rfl)) (by unfold Func.isWrapper; first | (rw [if_pos (by decide +kernel)]; kernel_rfl) | (rw [if_neg (by decide +kernel)]; exact ⟨rfl, rfl⟩))
    (fun os started H enc _ => lifted os started H enc)
theorem proved : Rows.TableUrgentSaid := over
#print axioms proved
end Go.Proofs.Ytmfbpkjhabdcgaa.tableUrgent
namespace Go.Proofs.Ytmfbpkjhabdcgaa
/-- The row, under a short name, for the claim. -/
theorem tableUrgent_holds : Rows.TableUrgentSaid := tableUrgent.proved
end Go.Proofs.Ytmfbpkjhabdcgaa
end
