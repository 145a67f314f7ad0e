/- Part 3 of TableLooks: what the functions reckon, step by step, and plain laws. No condition. -/
import Derived.Test.YtmfbpkjhabdcgaaKTableLooksx2
section
/- Contract of table.Urgent and its closure. -/
namespace Go.Proofs.Ytmfbpkjhabdcgaa.F
open Go.RowKit Go.Proofs.YtmfbpkjhabdcgaaW.PrintWords Go.Proofs.YtmfbpkjhabdcgaaW.PrintLast Go.Proofs.YtmfbpkjhabdcgaaW.PrintMore
set_option linter.unusedVariables false
set_option linter.unusedSimpArgs false

/-- Urgent$1. -/
def isUrgent (now age : Int) (x : S29) : Bool := (x.f0 != 3) && (decide (x.f3 ≤ now) && decide (age ≤ wrap64 (now - x.f3)))
set_option maxHeartbeats 1000000 in
set_option maxRecDepth 100000 in
theorem urgent1_pred (w : World) (row : Option Nat) (gn ga : Nat) (now age : Int) (hbn : w.heap[gn]? = some (.cells #[.int .i64 now] 3 (0, 0))) (hnn : some gn ≠ row) (hba : w.heap[ga]? = some (.cells #[.int .i64 age] 3 (0, 0))) (hna : some ga ≠ row) :
    PredG 131 #[.pointer (some ⟨gn, 0, none⟩), .pointer (some ⟨ga, 0, none⟩)] (isUrgent now age) w row := by
  intro W x0 x1 x2 x3 hW
  have HN := Aside0.mk (cell_grown hbn hnn hW)
  have HA := Aside0.mk (cell_grown hba hna hW)
  clear hbn hnn hba hna hW
  show Calls Try.prog 131 #[.agg #[.int .i64 x0, .int .i64 x1, .int .i64 x2, .int .i64 x3], .pointer (some ⟨gn, 0, none⟩), .pointer (some ⟨ga, 0, none⟩)] W _
  cases h1 : (x0 != 3) with
  | false =>
    go_enter Try.func131, Try.ntmps131
    go_wp2_with (first | ((with_reducible refine gate_dst (N := 3) rfl ?_); refine box_event ?hg (N := 3) ?hd (cs := #[.int .i64 x0, .int .i64 x1, .int .i64 x2, .int .i64 x3]) (t := 29) ?hr ?_; (case hd => rfl); (case hg => rfl); (case hr => first | (go_simp; done) | (go_simp; rfl)); intro gb hg_ w3 hx_ hb_; have HB3 := Aside0.mk hb_; have b0 := (blk_cell hx_ 0).trans rfl; have b1 := (blk_cell hx_ 1).trans rfl; have b2 := (blk_cell hx_ 2).trans rfl; have b3 := (blk_cell hx_ 3).trans rfl; have HX := Aside0.mk hx_; have HN3 := Aside0.mk (blk_below HN.out hb_); have HA3 := Aside0.mk (blk_below HA.out hb_); clear hb_ hg_ hx_) | (go_at_call 132; refine (thall_calls _ _ _ _ _).mono ?_; rw [h1]; rintro e w5 ⟨rfl, hb5⟩; have HB5 := Aside0.mk (below_then HB3.out HB3.out.size hb5); have n0 := (blk_cell (blk_below HN3.out hb5) 0).trans rfl; have a0 := (blk_cell (blk_below HA3.out hb5) 0).trans rfl; have e3 := (blk_cell (blk_below HX.out hb5) 3).trans rfl; clear hb5))
    go_ret
    refine ⟨?_, HB5.out⟩
    show Ending.returned _ = Ending.returned (.bool ((x0 != 3) && (decide (x3 ≤ now) && decide (age ≤ wrap64 (now - x3)))))
    rw [h1]; rfl
  | true =>
    cases h2 : decide (x3 ≤ now) with
    | false =>
      go_enter Try.func131, Try.ntmps131
      go_wp2_with (first | ((with_reducible refine gate_dst (N := 3) rfl ?_); refine box_event ?hg (N := 3) ?hd (cs := #[.int .i64 x0, .int .i64 x1, .int .i64 x2, .int .i64 x3]) (t := 29) ?hr ?_; (case hd => rfl); (case hg => rfl); (case hr => first | (go_simp; done) | (go_simp; rfl)); intro gb hg_ w3 hx_ hb_; have HB3 := Aside0.mk hb_; have b0 := (blk_cell hx_ 0).trans rfl; have b1 := (blk_cell hx_ 1).trans rfl; have b2 := (blk_cell hx_ 2).trans rfl; have b3 := (blk_cell hx_ 3).trans rfl; have HX := Aside0.mk hx_; have HN3 := Aside0.mk (blk_below HN.out hb_); have HA3 := Aside0.mk (blk_below HA.out hb_); clear hb_ hg_ hx_) | (go_at_call 132; refine (thall_calls _ _ _ _ _).mono ?_; rw [h1]; rintro e w5 ⟨rfl, hb5⟩; have HB5 := Aside0.mk (below_then HB3.out HB3.out.size hb5); have n0 := (blk_cell (blk_below HN3.out hb5) 0).trans rfl; have a0 := (blk_cell (blk_below HA3.out hb5) 0).trans rfl; have e3 := (blk_cell (blk_below HX.out hb5) 3).trans rfl; clear hb5))
      go_ret
      refine ⟨?_, HB5.out⟩
      show Ending.returned _ = Ending.returned (.bool ((x0 != 3) && (decide (x3 ≤ now) && decide (age ≤ wrap64 (now - x3)))))
      rw [h1, h2]; rfl
    | true =>
      cases h3 : decide (age ≤ wrap64 (now - x3)) with
      | false =>
        go_enter Try.func131, Try.ntmps131
        go_wp2_with (first | ((with_reducible refine gate_dst (N := 3) rfl ?_); refine box_event ?hg (N := 3) ?hd (cs := #[.int .i64 x0, .int .i64 x1, .int .i64 x2, .int .i64 x3]) (t := 29) ?hr ?_; (case hd => rfl); (case hg => rfl); (case hr => first | (go_simp; done) | (go_simp; rfl)); intro gb hg_ w3 hx_ hb_; have HB3 := Aside0.mk hb_; have b0 := (blk_cell hx_ 0).trans rfl; have b1 := (blk_cell hx_ 1).trans rfl; have b2 := (blk_cell hx_ 2).trans rfl; have b3 := (blk_cell hx_ 3).trans rfl; have HX := Aside0.mk hx_; have HN3 := Aside0.mk (blk_below HN.out hb_); have HA3 := Aside0.mk (blk_below HA.out hb_); clear hb_ hg_ hx_) | (go_at_call 132; refine (thall_calls _ _ _ _ _).mono ?_; rw [h1]; rintro e w5 ⟨rfl, hb5⟩; have HB5 := Aside0.mk (below_then HB3.out HB3.out.size hb5); have n0 := (blk_cell (blk_below HN3.out hb5) 0).trans rfl; have a0 := (blk_cell (blk_below HA3.out hb5) 0).trans rfl; have e3 := (blk_cell (blk_below HX.out hb5) 3).trans rfl; clear hb5))
        go_ret
        refine ⟨?_, HB5.out⟩
        show Ending.returned _ = Ending.returned (.bool ((x0 != 3) && (decide (x3 ≤ now) && decide (age ≤ wrap64 (now - x3)))))
        rw [h1, h2, h3]; rfl
      | true =>
        go_enter Try.func131, Try.ntmps131
        go_wp2_with (first | ((with_reducible refine gate_dst (N := 3) rfl ?_); refine box_event ?hg (N := 3) ?hd (cs := #[.int .i64 x0, .int .i64 x1, .int .i64 x2, .int .i64 x3]) (t := 29) ?hr ?_; (case hd => rfl); (case hg => rfl); (case hr => first | (go_simp; done) | (go_simp; rfl)); intro gb hg_ w3 hx_ hb_; have HB3 := Aside0.mk hb_; have b0 := (blk_cell hx_ 0).trans rfl; have b1 := (blk_cell hx_ 1).trans rfl; have b2 := (blk_cell hx_ 2).trans rfl; have b3 := (blk_cell hx_ 3).trans rfl; have HX := Aside0.mk hx_; have HN3 := Aside0.mk (blk_below HN.out hb_); have HA3 := Aside0.mk (blk_below HA.out hb_); clear hb_ hg_ hx_) | (go_at_call 132; refine (thall_calls _ _ _ _ _).mono ?_; rw [h1]; rintro e w5 ⟨rfl, hb5⟩; have HB5 := Aside0.mk (below_then HB3.out HB3.out.size hb5); have n0 := (blk_cell (blk_below HN3.out hb5) 0).trans rfl; have a0 := (blk_cell (blk_below HA3.out hb5) 0).trans rfl; have e3 := (blk_cell (blk_below HX.out hb5) 3).trans rfl; clear hb5))
        go_ret
        refine ⟨?_, HB5.out⟩
        show Ending.returned _ = Ending.returned (.bool ((x0 != 3) && (decide (x3 ≤ now) && decide (age ≤ wrap64 (now - x3)))))
        rw [h1, h2, h3]; rfl

def table_Urgent.f (a0_0 : Int) (l0_1 : List (S29)) (a1 : Int) (a2 : Int) : Option ((List (S29)) × Int) :=
  (table_valid.f a0_0 l0_1).bind fun e => if e = 0 then (if a2 < 0 then some ([], 2) else if l0_1.length < 4398046511104 then some (l0_1.filter (isUrgent a1 a2), 0) else none) else some ([], e)

set_option maxHeartbeats 4000000 in
set_option maxRecDepth 100000 in
theorem table_Urgent.calls (a0_0 : Int) (A0_1 : Option Addr) (c0_1 : Nat) (l0_1 : List (S29)) (a1 : Int) (a2 : Int) (r1 : List (S29)) (r2 : Int) (w : World) (hr0_1 : Kd.C k29 w A0_1 l0_1.length l0_1) (hc0_1 : l0_1.length ≤ c0_1) (h : table_Urgent.f a0_0 l0_1 a1 a2 = some (r1, r2)) :
    Calls Try.prog 32 #[.agg #[.int .i64 a0_0, .slice A0_1 l0_1.length c0_1], .int .i64 a1, .int .i64 a2] w fun e w' => ∃ v0_ : Value, e = .returned (.tuple #[v0_, .int .i64 r2]) ∧ Kd.R k29 29 w' w.heap.size (fun _ => True) v0_ r1 ∧ Below w.heap.size w w' := by
  have hu25 := Try.underlying25
  unfold table_Urgent.f at h
  obtain ⟨e, he, h⟩ := Option.bind_eq_some_iff.mp h
  have HE := Aside0.mk he
  have HC := Aside0.mk hr0_1
  clear he hr0_1
  by_cases c0 : e = 0
  · subst c0
    rw [if_pos rfl] at h
    by_cases c1 : a2 < 0
    · rw [if_pos c1] at h
      simp only [Option.some.injEq, Prod.mk.injEq] at h
      obtain ⟨rfl, rfl⟩ := h
      have d1 : decide (a2 < 0) = true := decide_eq_true c1
      clear c1
      go_enter Try.func32, Try.ntmps32
      go_wp2_with (first | ((with_reducible refine gate_dst (N := 3) rfl ?_); refine box_event ?hg (N := 3) ?hd (cs := #[.int .i64 a0_0, .slice A0_1 l0_1.length c0_1]) (t := 25) ?hr ?_; (case hd => rfl); (case hg => rfl); (case hr => first | (go_simp; done) | (go_simp; rfl)); intro gt hg_ w3 hx_ hb_; have HB3 := Aside0.mk hb_; have HX3 := Aside0.mk hx_; clear hg_ hb_ hx_) | ((with_reducible refine gate_dst (N := 4) rfl ?_); refine box_event ?hg (N := 4) ?hd (cs := #[.int .i64 a1]) (t := 3) ?hr ?_; (case hd => rfl); (case hg => rfl); (case hr => first | (go_simp; done) | (go_simp; rfl)); intro gn hg_ w4 hx_ hb_; have HB4 := Aside0.mk (below_then HB3.out HB3.out.size hb_); have HN4 := Aside0.mk hx_; have HX4 := Aside0.mk (blk_below HX3.out hb_); clear hg_ hb_ hx_) | ((with_reducible refine gate_dst (N := 5) rfl ?_); refine box_event ?hg (N := 5) ?hd (cs := #[.int .i64 a2]) (t := 3) ?hr ?_; (case hd => rfl); (case hg => rfl); (case hr => first | (go_simp; done) | (go_simp; rfl)); intro ga hg_ w5 hx_ hb_; have HB5 := Aside0.mk (below_then HB4.out HB4.out.size hb_); have HN5 := Aside0.mk (blk_below HN4.out hb_); have HX5 := Aside0.mk (blk_below HX4.out hb_); have HA5 := Aside0.mk hx_; have r0 := (blk_cell HX5.out 0).trans rfl; have r1 := (blk_cell HX5.out 1).trans rfl; clear hg_ hb_ hx_) | (go_at_call 129; refine (table_valid.calls a0_0 A0_1 c0_1 l0_1 _ _ (Kd.C_below HC.out HB5.out) hc0_1 HE.out).mono ?_; rintro e w6 ⟨rfl, hb_⟩; have HB6 := Aside0.mk (below_then HB5.out HB5.out.size hb_); have HN6 := Aside0.mk (blk_below HN5.out hb_); have HX6 := Aside0.mk (blk_below HX5.out hb_); have HA6 := Aside0.mk (blk_below HA5.out hb_); have s0 := (blk_cell HX6.out 0).trans rfl; have s1 := (blk_cell HX6.out 1).trans rfl; have s2 := (blk_cell HN6.out 0).trans rfl; have s3 := (blk_cell HA6.out 0).trans rfl; clear hb_))
      refine bodyPost_ret (results_tmp2 rfl _ _ _) rfl ?_
      exact ⟨_, rfl, Kd.R_nil _ _ _ _ _, HB6.out⟩
    · rw [if_neg c1] at h
      have d1 : decide (a2 < 0) = false := decide_eq_false c1
      clear c1
      split at h
      case isFalse => cases h
      case isTrue hl =>
      simp only [Option.some.injEq, Prod.mk.injEq] at h
      obtain ⟨rfl, rfl⟩ := h
      have HL := Aside0.mk hl
      clear hl
      go_enter Try.func32, Try.ntmps32
      go_wp2_with (first | ((with_reducible refine gate_dst (N := 3) rfl ?_); refine box_event ?hg (N := 3) ?hd (cs := #[.int .i64 a0_0, .slice A0_1 l0_1.length c0_1]) (t := 25) ?hr ?_; (case hd => rfl); (case hg => rfl); (case hr => first | (go_simp; done) | (go_simp; rfl)); intro gt hg_ w3 hx_ hb_; have HB3 := Aside0.mk hb_; have HX3 := Aside0.mk hx_; clear hg_ hb_ hx_) | ((with_reducible refine gate_dst (N := 4) rfl ?_); refine box_event ?hg (N := 4) ?hd (cs := #[.int .i64 a1]) (t := 3) ?hr ?_; (case hd => rfl); (case hg => rfl); (case hr => first | (go_simp; done) | (go_simp; rfl)); intro gn hg_ w4 hx_ hb_; have HB4 := Aside0.mk (below_then HB3.out HB3.out.size hb_); have HN4 := Aside0.mk hx_; have HX4 := Aside0.mk (blk_below HX3.out hb_); clear hg_ hb_ hx_) | ((with_reducible refine gate_dst (N := 5) rfl ?_); refine box_event ?hg (N := 5) ?hd (cs := #[.int .i64 a2]) (t := 3) ?hr ?_; (case hd => rfl); (case hg => rfl); (case hr => first | (go_simp; done) | (go_simp; rfl)); intro ga hg_ w5 hx_ hb_; have HB5 := Aside0.mk (below_then HB4.out HB4.out.size hb_); have HN5 := Aside0.mk (blk_below HN4.out hb_); have HX5 := Aside0.mk (blk_below HX4.out hb_); have HA5 := Aside0.mk hx_; have r0 := (blk_cell HX5.out 0).trans rfl; have r1 := (blk_cell HX5.out 1).trans rfl; clear hg_ hb_ hx_) | (go_at_call 129; refine (table_valid.calls a0_0 A0_1 c0_1 l0_1 _ _ (Kd.C_below HC.out HB5.out) hc0_1 HE.out).mono ?_; rintro e w6 ⟨rfl, hb_⟩; have HB6 := Aside0.mk (below_then HB5.out HB5.out.size hb_); have HN6 := Aside0.mk (blk_below HN5.out hb_); have HX6 := Aside0.mk (blk_below HX5.out hb_); have HA6 := Aside0.mk (blk_below HA5.out hb_); have s0 := (blk_cell HX6.out 0).trans rfl; have s1 := (blk_cell HX6.out 1).trans rfl; have s2 := (blk_cell HN6.out 0).trans rfl; have s3 := (blk_cell HA6.out 0).trans rfl; clear hb_) | (go_at_call 130; refine (filter_calls 131 _ (enters_of Try.func131 (by kernel_rfl) rfl) (isUrgent a1 a2) a0_0 A0_1 c0_1 l0_1 _ (Kd.C_below HC.out HB6.out) hc0_1 HL.out (urgent1_pred _ none gn ga a1 a2 HN6.out (fun e => by cases e) HA6.out (fun e => by cases e))).mono ?_; rintro e w7 ⟨v7, rfl, ho7, hb7⟩; have HO7 := Aside0.mk (Kd.R_lower ho7 HB6.out.size); have HB7 := Aside0.mk (below_then HB6.out HB6.out.size hb7); clear ho7 hb7))
      refine bodyPost_ret (results_tmp2 rfl _ _ _) rfl ?_
      exact ⟨_, rfl, HO7.out, HB7.out⟩
  · rw [if_neg c0] at h
    simp only [Option.some.injEq, Prod.mk.injEq] at h
    obtain ⟨rfl, rfl⟩ := h
    have d0 : (e == 0) = false := beq_eq_false_iff_ne.mpr c0
    have d1 : (e != 0) = true := bne_iff_ne.mpr c0
    clear c0
    go_enter Try.func32, Try.ntmps32
    go_wp2_with (first | ((with_reducible refine gate_dst (N := 3) rfl ?_); refine box_event ?hg (N := 3) ?hd (cs := #[.int .i64 a0_0, .slice A0_1 l0_1.length c0_1]) (t := 25) ?hr ?_; (case hd => rfl); (case hg => rfl); (case hr => first | (go_simp; done) | (go_simp; rfl)); intro gt hg_ w3 hx_ hb_; have HB3 := Aside0.mk hb_; have HX3 := Aside0.mk hx_; clear hg_ hb_ hx_) | ((with_reducible refine gate_dst (N := 4) rfl ?_); refine box_event ?hg (N := 4) ?hd (cs := #[.int .i64 a1]) (t := 3) ?hr ?_; (case hd => rfl); (case hg => rfl); (case hr => first | (go_simp; done) | (go_simp; rfl)); intro gn hg_ w4 hx_ hb_; have HB4 := Aside0.mk (below_then HB3.out HB3.out.size hb_); have HN4 := Aside0.mk hx_; have HX4 := Aside0.mk (blk_below HX3.out hb_); clear hg_ hb_ hx_) | ((with_reducible refine gate_dst (N := 5) rfl ?_); refine box_event ?hg (N := 5) ?hd (cs := #[.int .i64 a2]) (t := 3) ?hr ?_; (case hd => rfl); (case hg => rfl); (case hr => first | (go_simp; done) | (go_simp; rfl)); intro ga hg_ w5 hx_ hb_; have HB5 := Aside0.mk (below_then HB4.out HB4.out.size hb_); have HN5 := Aside0.mk (blk_below HN4.out hb_); have HX5 := Aside0.mk (blk_below HX4.out hb_); have HA5 := Aside0.mk hx_; have r0 := (blk_cell HX5.out 0).trans rfl; have r1 := (blk_cell HX5.out 1).trans rfl; clear hg_ hb_ hx_) | (go_at_call 129; refine (table_valid.calls a0_0 A0_1 c0_1 l0_1 _ _ (Kd.C_below HC.out HB5.out) hc0_1 HE.out).mono ?_; rintro e w6 ⟨rfl, hb_⟩; have HB6 := Aside0.mk (below_then HB5.out HB5.out.size hb_); have HN6 := Aside0.mk (blk_below HN5.out hb_); have HX6 := Aside0.mk (blk_below HX5.out hb_); have HA6 := Aside0.mk (blk_below HA5.out hb_); have s0 := (blk_cell HX6.out 0).trans rfl; have s1 := (blk_cell HX6.out 1).trans rfl; have s2 := (blk_cell HN6.out 0).trans rfl; have s3 := (blk_cell HA6.out 0).trans rfl; clear hb_))
    refine bodyPost_ret (results_tmp2 rfl _ _ _) rfl ?_
    exact ⟨_, rfl, Kd.R_nil _ _ _ _ _, HB6.out⟩

end Go.Proofs.Ytmfbpkjhabdcgaa.F
end
section
-- Written by fork.py (this session's program over the kit's print.py). Not trusted: Lean checks it.
namespace Go.Proofs.Ytmfbpkjhabdcgaa.F
open Go.RowKit Go.Proofs.YtmfbpkjhabdcgaaW.PrintWords Go.Proofs.YtmfbpkjhabdcgaaW.PrintLast Go.Proofs.YtmfbpkjhabdcgaaW.PrintMore
attribute [local go_sem] max2_int min2_int max_two min_two max_three min_three max_four min_four
set_option linter.unusedVariables false
set_option linter.unusedSimpArgs false

attribute [local go_sem high] eqA29
/-! ### L21_TableLooks: function 6 -/
mutual
def L21_TableLooks.j0 : Nat → Int → Int → Int → Bool → Int → List (S29) → Int → List (S29) → Option (Bool)
  | 0, _, _, _, _, _, _, _, _ => none
  | k + 1, x1, x2, x3, x55, x398000, x398001, x404000, x404001 => if x55 = true then (some false) else ((table_Halls.f k x404000 x404001).bind fun bt418 => ((R21_Halls.f k x398000 x398001).bind fun bt421 => ((table_Of.f x404000 x404001 x1).bind fun bt424 => ((R21_Of.f k x398000 x398001 x1).bind fun bt428 => (if bt418.1 = bt421.1 then (if bt418.2.1 = bt421.2.1 then (if bt418.2.2 = bt421.2.2 then ((K_SameCallsIn.f k bt424.1 bt428.1).bind fun t432 => (if t432 = true then (L21_TableLooks.j1 k x2 x3 (bt424.2 != bt428.2) x398000 x398001 x404000 x404001) else (L21_TableLooks.j1 k x2 x3 true x398000 x398001 x404000 x404001))) else (L21_TableLooks.j1 k x2 x3 true x398000 x398001 x404000 x404001)) else (L21_TableLooks.j1 k x2 x3 true x398000 x398001 x404000 x404001)) else (L21_TableLooks.j1 k x2 x3 true x398000 x398001 x404000 x404001))))))
def L21_TableLooks.j1 : Nat → Int → Int → Bool → Int → List (S29) → Int → List (S29) → Option (Bool)
  | 0, _, _, _, _, _, _, _ => none
  | k + 1, x2, x3, x103, x398000, x398001, x404000, x404001 => if x103 = true then (some false) else ((table_Urgent.f x404000 x404001 x2 x3).bind fun bt433 => ((R21_Urgent.f k x398000 x398001 x2 x3).bind fun bt437 => ((K_SameCallsIn.f k bt433.1 bt437.1).bind fun t441 => (if t441 = true then (if bt433.2 = bt437.2 then ((K_SameTable.f k x404000 x404001 x398000 x398001).bind fun t442 => (if t442 = true then ((L21_awake.f k).bind fun t443 => (some t443)) else (some false))) else (some false)) else (some false)))))
end
def L21_TableLooks.f (k : Nat) (a0_0 : Int) (l0_1 : List (S29)) (a1 : Int) (a2 : Int) (a3 : Int) : Option (Bool) := if (l0_1.length : Int) > 40 then ((L21_awake.f k).bind fun t398 => (some t398)) else ((K_OwnTable.f a0_0 l0_1).bind fun bt399 => ((table_Oldest.f bt399.1 bt399.2).bind fun bt404 => ((R21_Oldest.f k a0_0 l0_1).bind fun bt411 => (if (!(bt404.1 == bt411.1) || (!(bt404.2.1 == bt411.2.1) || (!(bt404.2.2.1 == bt411.2.2.1) || (!(bt404.2.2.2.1 == bt411.2.2.2.1))))) = true then (L21_TableLooks.j0 k a1 a2 a3 true a0_0 l0_1 bt399.1 bt399.2) else (if (bt404.2.2.2.2.1 != bt411.2.2.2.2.1) = true then (L21_TableLooks.j0 k a1 a2 a3 true a0_0 l0_1 bt399.1 bt399.2) else (L21_TableLooks.j0 k a1 a2 a3 (bt404.2.2.2.2.2 != bt411.2.2.2.2.2) a0_0 l0_1 bt399.1 bt399.2))))))
theorem L21_TableLooks.mono_l : ∀ k, (∀ y0 y1 y2 y3 y4 y5 y6 y7, LeO (L21_TableLooks.j0 k y0 y1 y2 y3 y4 y5 y6 y7) (L21_TableLooks.j0 (k + 1) y0 y1 y2 y3 y4 y5 y6 y7)) ∧ (∀ y0 y1 y2 y3 y4 y5 y6, LeO (L21_TableLooks.j1 k y0 y1 y2 y3 y4 y5 y6) (L21_TableLooks.j1 (k + 1) y0 y1 y2 y3 y4 y5 y6))
  | 0 => ⟨fun _ _ _ _ _ _ _ _ r h => by simp [L21_TableLooks.j0] at h, fun _ _ _ _ _ _ _ r h => by simp [L21_TableLooks.j1] at h⟩
  | k + 1 => by
    obtain ⟨ih0, ih1⟩ := L21_TableLooks.mono_l k
    refine ⟨?_, ?_⟩
    · intro y0 y1 y2 y3 y4 y5 y6 y7
      unfold L21_TableLooks.j0
      repeat' first
      | (with_reducible exact ih0 _ _ _ _ _ _ _ _)
      | (with_reducible exact ih1 _ _ _ _ _ _ _)
      | (with_reducible exact K_SameCallsIn.mono _ _ _)
      | (with_reducible exact K_SameTable.mono _ _ _ _ _)
      | (with_reducible exact L21_awake.mono _)
      | (with_reducible exact R21_Halls.mono _ _ _)
      | (with_reducible exact R21_Of.mono _ _ _ _)
      | (with_reducible exact R21_Oldest.mono _ _ _)
      | (with_reducible exact R21_Urgent.mono _ _ _ _ _)
      | (with_reducible exact table_Halls.mono _ _ _)
      | (with_reducible exact LeO.refl _)
      | (with_reducible exact LeO.none _)
      | (with_reducible refine LeO.ite ?_ ?_)
      | (with_reducible refine LeO.bind ?_ (fun _ => ?_))
      | exact ih0 _ _ _ _ _ _ _ _
      | exact ih1 _ _ _ _ _ _ _
      | exact K_SameCallsIn.mono _ _ _
      | exact K_SameTable.mono _ _ _ _ _
      | exact L21_awake.mono _
      | exact R21_Halls.mono _ _ _
      | exact R21_Of.mono _ _ _ _
      | exact R21_Oldest.mono _ _ _
      | exact R21_Urgent.mono _ _ _ _ _
      | exact table_Halls.mono _ _ _
      | exact LeO.none _
      | refine LeO.ite ?_ ?_
      | refine LeO.bind ?_ (fun _ => ?_)
    · intro y0 y1 y2 y3 y4 y5 y6
      unfold L21_TableLooks.j1
      repeat' first
      | (with_reducible exact ih0 _ _ _ _ _ _ _ _)
      | (with_reducible exact ih1 _ _ _ _ _ _ _)
      | (with_reducible exact K_SameCallsIn.mono _ _ _)
      | (with_reducible exact K_SameTable.mono _ _ _ _ _)
      | (with_reducible exact L21_awake.mono _)
      | (with_reducible exact R21_Halls.mono _ _ _)
      | (with_reducible exact R21_Of.mono _ _ _ _)
      | (with_reducible exact R21_Oldest.mono _ _ _)
      | (with_reducible exact R21_Urgent.mono _ _ _ _ _)
      | (with_reducible exact table_Halls.mono _ _ _)
      | (with_reducible exact LeO.refl _)
      | (with_reducible exact LeO.none _)
      | (with_reducible refine LeO.ite ?_ ?_)
      | (with_reducible refine LeO.bind ?_ (fun _ => ?_))
      | exact ih0 _ _ _ _ _ _ _ _
      | exact ih1 _ _ _ _ _ _ _
      | exact K_SameCallsIn.mono _ _ _
      | exact K_SameTable.mono _ _ _ _ _
      | exact L21_awake.mono _
      | exact R21_Halls.mono _ _ _
      | exact R21_Of.mono _ _ _ _
      | exact R21_Oldest.mono _ _ _
      | exact R21_Urgent.mono _ _ _ _ _
      | exact table_Halls.mono _ _ _
      | exact LeO.none _
      | refine LeO.ite ?_ ?_
      | refine LeO.bind ?_ (fun _ => ?_)
theorem L21_TableLooks.mono : ∀ a0 a1 a2 a3 a4 k, LeO (L21_TableLooks.f k a0 a1 a2 a3 a4) (L21_TableLooks.f (k + 1) a0 a1 a2 a3 a4) := by
  intro a0 a1 a2 a3 a4 k
  obtain ⟨ih0, ih1⟩ := L21_TableLooks.mono_l k
  unfold L21_TableLooks.f
  repeat' first
      | (with_reducible exact ih0 _ _ _ _ _ _ _ _)
      | (with_reducible exact ih1 _ _ _ _ _ _ _)
      | (with_reducible exact K_SameCallsIn.mono _ _ _)
      | (with_reducible exact K_SameTable.mono _ _ _ _ _)
      | (with_reducible exact L21_awake.mono _)
      | (with_reducible exact R21_Halls.mono _ _ _)
      | (with_reducible exact R21_Of.mono _ _ _ _)
      | (with_reducible exact R21_Oldest.mono _ _ _)
      | (with_reducible exact R21_Urgent.mono _ _ _ _ _)
      | (with_reducible exact table_Halls.mono _ _ _)
      | (with_reducible exact LeO.refl _)
      | (with_reducible exact LeO.none _)
      | (with_reducible refine LeO.ite ?_ ?_)
      | (with_reducible refine LeO.bind ?_ (fun _ => ?_))
      | exact ih0 _ _ _ _ _ _ _ _
      | exact ih1 _ _ _ _ _ _ _
      | exact K_SameCallsIn.mono _ _ _
      | exact K_SameTable.mono _ _ _ _ _
      | exact L21_awake.mono _
      | exact R21_Halls.mono _ _ _
      | exact R21_Of.mono _ _ _ _
      | exact R21_Oldest.mono _ _ _
      | exact R21_Urgent.mono _ _ _ _ _
      | exact table_Halls.mono _ _ _
      | exact LeO.none _
      | refine LeO.ite ?_ ?_
      | refine LeO.bind ?_ (fun _ => ?_)
theorem L21_TableLooks.j0_d55true (k : Nat) (x1 : Int) (x2 : Int) (x3 : Int) (x398000 : Int) (x398001 : List (S29)) (x404000 : Int) (x404001 : List (S29)) : L21_TableLooks.j0 k x1 x2 x3 true x398000 x398001 x404000 x404001 ≠ some true := by
  cases k with
  | zero => simp only [L21_TableLooks.j0]; exact never_none
  | succ k =>
    simp only [L21_TableLooks.j0]
    all_goals (try rw [if_pos rfl])
    all_goals (repeat (first | exact never_none | exact never_false | refine never_ite ?_ ?_ | refine never_bind (fun _ => ?_)))
theorem L21_TableLooks.j1_d103true (k : Nat) (x2 : Int) (x3 : Int) (x398000 : Int) (x398001 : List (S29)) (x404000 : Int) (x404001 : List (S29)) : L21_TableLooks.j1 k x2 x3 true x398000 x398001 x404000 x404001 ≠ some true := by
  cases k with
  | zero => simp only [L21_TableLooks.j1]; exact never_none
  | succ k =>
    simp only [L21_TableLooks.j1]
    all_goals (try rw [if_pos rfl])
    all_goals (repeat (first | exact never_none | exact never_false | refine never_ite ?_ ?_ | refine never_bind (fun _ => ?_) | exact L21_TableLooks.j0_d55true _ _ _ _ _ _ _ _))
set_option maxHeartbeats 8000000 in
set_option maxRecDepth 100000 in
theorem L21_TableLooks.calls (k : Nat) (a0_0 : Int) (A0_1 : Option Addr) (c0_1 : Nat) (l0_1 : List (S29)) (a1 : Int) (a2 : Int) (a3 : Int) (r : Bool) (w : World) (hr0_1 : Kd.C k29 w A0_1 l0_1.length l0_1) (hc0_1 : l0_1.length ≤ c0_1) (h : L21_TableLooks.f k a0_0 l0_1 a1 a2 a3 = some r) (ht_ : r = true := by rfl) :
    Calls Try.prog 6 #[.agg #[.int .i64 a0_0, .slice A0_1 l0_1.length c0_1], .int .i64 a1, .int .i64 a2, .int .i64 a3] w fun e w' => e = .returned (.bool r) ∧ Below w.heap.size w w' := by
  subst ht_
  have hu25 := Try.underlying25
  have hu29 := Try.underlying29
  have HR0_1 := Aside0.mk hr0_1
  have HC0_1 := Aside0.mk hc0_1
  clear hr0_1 hc0_1
  have HB := Aside0.mk (Below.refl w.heap.size w)
  have H : (if (l0_1.length : Int) > 40 then ((L21_awake.f k).bind fun t398 => (some t398)) else ((K_OwnTable.f a0_0 l0_1).bind fun bt399 => ((table_Oldest.f bt399.1 bt399.2).bind fun bt404 => ((R21_Oldest.f k a0_0 l0_1).bind fun bt411 => (if (!(bt404.1 == bt411.1) || (!(bt404.2.1 == bt411.2.1) || (!(bt404.2.2.1 == bt411.2.2.1) || (!(bt404.2.2.2.1 == bt411.2.2.2.1))))) = true then (L21_TableLooks.j0 k a1 a2 a3 true a0_0 l0_1 bt399.1 bt399.2) else (if (bt404.2.2.2.2.1 != bt411.2.2.2.2.1) = true then (L21_TableLooks.j0 k a1 a2 a3 true a0_0 l0_1 bt399.1 bt399.2) else (L21_TableLooks.j0 k a1 a2 a3 (bt404.2.2.2.2.2 != bt411.2.2.2.2.2) a0_0 l0_1 bt399.1 bt399.2))))))) = some true := h
  clear h
  by_cases c5 : (l0_1.length : Int) > 40
  · rw [if_pos c5] at H
    have c5b0 : decide (40 < (l0_1.length : Int)) = true := decide_eq_true c5
    have c5b1 : decide (40 < l0_1.length) = true := decide_eq_true (by omega)
    clear c5
    replace H := Option.bind_eq_some_iff.mp H
    obtain ⟨t398, A60, H⟩ := H
    replace H : (some t398) = some true := H
    have A6 := Aside0.mk A60
    clear A60
    have Ht_ := Option.some.inj H
    clear H
    subst Ht_
    have H : (some true : Option Bool) = some true := rfl
    clear H
    go_enter Try.func6, Try.ntmps6
    go_wp2_with (first | ((with_reducible refine gate_dst (N := 4) rfl ?_); refine box_event ?hg (N := 4) ?hd (cs := #[.int .i64 a0_0, .slice A0_1 l0_1.length c0_1]) (t := 25) ?hr ?_; (case hd => rfl); (case hg => rfl); (case hr => first | (go_simp; done) | (go_simp; rfl)); intro gb397 hg w7 hbox hb; have n0_ := Aside0.mk (below_step (by repeat (first | (with_reducible first | exact HB.out | apply below_alloc | apply pw_below_drewN | apply below_drew1) | exact HB.out)) hb); have n1_ := Aside0.mk (hbox); have n2_ := Aside0.mk ((by rw [hg]; exact (below_size (by repeat (first | (with_reducible first | exact HB.out | apply below_alloc | apply pw_below_drewN | apply below_drew1) | exact HB.out))) : w.heap.size ≤ gb397)); have n3_ := Aside0.mk ((by rw [hg]; exact (below_size (by repeat (first | (with_reducible first | exact HB.out | apply below_alloc | apply pw_below_drewN | apply below_drew1) | exact HB.out))) : w.heap.size ≤ gb397)); clear HB; have HB := n0_; have BK397 := n1_; have GW397 := n2_; have GE397 := n3_; clear n0_ n1_ n2_ n3_; clear hb hbox hg; have hcz8_0 : w7.cell? ⟨gb397, 0, none⟩ = some (.int .i64 a0_0) := (blk_cell BK397.out 0).trans rfl; have hcz8_1 : w7.cell? ⟨gb397, 1, none⟩ = some (.slice A0_1 l0_1.length c0_1) := (blk_cell BK397.out 1).trans rfl; have hfz8_0 := blk_frozen BK397.out 0; have hfz8_1 := blk_frozen BK397.out 1) | ((with_reducible refine gate_callee (f := 30) rfl ?_); refine goesL_ (some 28) rfl rfl Try.func30 (by kernel_rfl) rfl #[] rfl (by (try simp only [List.map_toArray, List.map_cons, List.map_nil]); first | done | rfl | (simp only [List.length_drop, List.length_take]; rfl)) ?_; (with_reducible refine (L21_awake.calls k  true _ A6.out).mono ?_); rintro e w9 ⟨rfl, hb⟩; refine ⟨_, rfl, ?_⟩; have n0_ := Aside0.mk (blk_below (g := gb397) (o := .cells #[.int .i64 a0_0, .slice A0_1 l0_1.length c0_1] 25 (0, 0)) (by (with_reducible repeat (first | refine blk_drewN ?_ _ | refine blk_drew ?_ | refine blk_alloc ?_ _)); exact BK397.out) hb); have n1_ := Aside0.mk (below_step (by repeat (first | (with_reducible first | exact HB.out | apply below_alloc | apply pw_below_drewN | apply below_drew1 | refine below_set ?_ GE397.out) | exact HB.out)) hb); clear BK397; clear HB; have BK397 := n0_; have HB := n1_; clear n0_ n1_; (try clear hb); (try clear hb2); (try clear hk); (try clear hi)))
    all_goals go_ret
    all_goals exact ⟨by first | rfl | (simp [errW_none, errW_some] <;> rfl) | (simp [*, errW_none, errW_some] <;> rfl), by repeat (first | (with_reducible first | exact HB.out | apply below_alloc | apply pw_below_drewN | apply below_drew1 | refine below_set ?_ GE397.out) | exact HB.out)⟩
  · rw [if_neg c5] at H
    have c5b0 : decide (40 < (l0_1.length : Int)) = false := decide_eq_false c5
    have c5b1 : decide (40 < l0_1.length) = false := decide_eq_false (by omega)
    clear c5
    replace H := Option.bind_eq_some_iff.mp H
    obtain ⟨⟨t399, t400⟩, A100, H⟩ := H
    replace H : ((table_Oldest.f t399 t400).bind fun bt404 => ((R21_Oldest.f k a0_0 l0_1).bind fun bt411 => (if (!(bt404.1 == bt411.1) || (!(bt404.2.1 == bt411.2.1) || (!(bt404.2.2.1 == bt411.2.2.1) || (!(bt404.2.2.2.1 == bt411.2.2.2.1))))) = true then (L21_TableLooks.j0 k a1 a2 a3 true a0_0 l0_1 t399 t400) else (if (bt404.2.2.2.2.1 != bt411.2.2.2.2.1) = true then (L21_TableLooks.j0 k a1 a2 a3 true a0_0 l0_1 t399 t400) else (L21_TableLooks.j0 k a1 a2 a3 (bt404.2.2.2.2.2 != bt411.2.2.2.2.2) a0_0 l0_1 t399 t400))))) = some true := H
    have A10 := Aside0.mk A100
    clear A100
    replace H := Option.bind_eq_some_iff.mp H
    obtain ⟨⟨t404, t405, t406, t407, t408, t409⟩, A110, H⟩ := H
    replace H : ((R21_Oldest.f k a0_0 l0_1).bind fun bt411 => (if (!(t404 == bt411.1) || (!(t405 == bt411.2.1) || (!(t406 == bt411.2.2.1) || (!(t407 == bt411.2.2.2.1))))) = true then (L21_TableLooks.j0 k a1 a2 a3 true a0_0 l0_1 t399 t400) else (if (t408 != bt411.2.2.2.2.1) = true then (L21_TableLooks.j0 k a1 a2 a3 true a0_0 l0_1 t399 t400) else (L21_TableLooks.j0 k a1 a2 a3 (t409 != bt411.2.2.2.2.2) a0_0 l0_1 t399 t400)))) = some true := H
    have A11 := Aside0.mk A110
    clear A110
    replace H := Option.bind_eq_some_iff.mp H
    obtain ⟨⟨t411, t412, t413, t414, t415, t416⟩, A120, H⟩ := H
    replace H : (if (!(t404 == t411) || (!(t405 == t412) || (!(t406 == t413) || (!(t407 == t414))))) = true then (L21_TableLooks.j0 k a1 a2 a3 true a0_0 l0_1 t399 t400) else (if (t408 != t415) = true then (L21_TableLooks.j0 k a1 a2 a3 true a0_0 l0_1 t399 t400) else (L21_TableLooks.j0 k a1 a2 a3 (t409 != t416) a0_0 l0_1 t399 t400))) = some true := H
    have A12 := Aside0.mk A120
    clear A120
    have HC13 := Aside0.mk H
    clear H
    go_enter Try.func6, Try.ntmps6
    go_upto_region 6 with (first | ((with_reducible refine gate_dst (N := 4) rfl ?_); refine box_event ?hg (N := 4) ?hd (cs := #[.int .i64 a0_0, .slice A0_1 l0_1.length c0_1]) (t := 25) ?hr ?_; (case hd => rfl); (case hg => rfl); (case hr => first | (go_simp; done) | (go_simp; rfl)); intro gb397 hg w14 hbox hb; have n0_ := Aside0.mk (below_step (by repeat (first | (with_reducible first | exact HB.out | apply below_alloc | apply pw_below_drewN | apply below_drew1) | exact HB.out)) hb); have n1_ := Aside0.mk (hbox); have n2_ := Aside0.mk ((by rw [hg]; exact (below_size (by repeat (first | (with_reducible first | exact HB.out | apply below_alloc | apply pw_below_drewN | apply below_drew1) | exact HB.out))) : w.heap.size ≤ gb397)); have n3_ := Aside0.mk ((by rw [hg]; exact (below_size (by repeat (first | (with_reducible first | exact HB.out | apply below_alloc | apply pw_below_drewN | apply below_drew1) | exact HB.out))) : w.heap.size ≤ gb397)); clear HB; have HB := n0_; have BK397 := n1_; have GW397 := n2_; have GE397 := n3_; clear n0_ n1_ n2_ n3_; clear hb hbox hg; have hcz15_0 : w14.cell? ⟨gb397, 0, none⟩ = some (.int .i64 a0_0) := (blk_cell BK397.out 0).trans rfl; have hcz15_1 : w14.cell? ⟨gb397, 1, none⟩ = some (.slice A0_1 l0_1.length c0_1) := (blk_cell BK397.out 1).trans rfl; have hfz15_0 := blk_frozen BK397.out 0; have hfz15_1 := blk_frozen BK397.out 1) | ((with_reducible refine gate_callee (f := 34) rfl ?_); refine goesL_ (some 30) rfl rfl Try.func34 (by kernel_rfl) rfl #[.agg #[.int .i64 a0_0, .slice A0_1 l0_1.length c0_1]] rfl (by (try simp only [List.map_toArray, List.map_cons, List.map_nil]); first | done | rfl | (simp only [List.length_drop, List.length_take]; rfl)) ?_; (with_reducible refine (K_OwnTable.calls a0_0 _ _ l0_1 t399 t400 _ ?side1 ?side2 A10.out).mono ?_); (case side1 => repeat (first | exact (Kd.C_below HR0_1.out HB.out) | (with_reducible refine Kd.C_alloc ?_ _) | (with_reducible refine Kd.C_drewN ?_ _) | (with_reducible refine Kd.C_drew ?_))); (case side2 => exact HC0_1.out); rintro e w16 ⟨v401, rfl, ho0, hb⟩; refine ⟨_, rfl, ?_⟩; have n0_ := Aside0.mk (Kd.R_lower ho0 (below_size (by repeat (first | (with_reducible first | exact HB.out | apply below_alloc | apply pw_below_drewN | apply below_drew1 | refine below_set ?_ GE397.out) | exact HB.out)))); have n1_ := Aside0.mk (blk_below (g := gb397) (o := .cells #[.int .i64 a0_0, .slice A0_1 l0_1.length c0_1] 25 (0, 0)) (by (with_reducible repeat (first | refine blk_drewN ?_ _ | refine blk_drew ?_ | refine blk_alloc ?_ _)); exact BK397.out) hb); have n2_ := Aside0.mk (below_step (by repeat (first | (with_reducible first | exact HB.out | apply below_alloc | apply pw_below_drewN | apply below_drew1 | refine below_set ?_ GE397.out) | exact HB.out)) hb); clear BK397; clear HB; have HO402 := n0_; have BK397 := n1_; have HB := n2_; clear n0_ n1_ n2_; (try clear hb); (try clear hb2); (try clear hk); (try clear hi); (try clear ho0)) | ((with_reducible refine gate_dst (N := 9) rfl ?_); refine box_event ?hg (N := 9) ?hd (cs := #[.int .i64 0, .slice none 0 0]) (t := 25) ?hr ?_; (case hd => rfl); (case hg => rfl); (case hr => first | (go_simp; done) | (go_simp; rfl)); intro gb403 hg w17 hbox hb; have n0_ := Aside0.mk (Kd.R_below (by (with_reducible repeat (first | apply Kd.R_alloc | apply Kd.R_drewN | apply Kd.R_drew)); exact HO402.out) hb); have n1_ := Aside0.mk (blk_below (g := gb397) (o := .cells #[.int .i64 a0_0, .slice A0_1 l0_1.length c0_1] 25 (0, 0)) (by (with_reducible repeat (first | refine blk_drewN ?_ _ | refine blk_drew ?_ | refine blk_alloc ?_ _)); exact BK397.out) hb); have n2_ := Aside0.mk (below_step (by repeat (first | (with_reducible first | exact HB.out | apply below_alloc | apply pw_below_drewN | apply below_drew1 | refine below_set ?_ GE397.out) | exact HB.out)) hb); have n3_ := Aside0.mk (hbox); have n4_ := Aside0.mk ((by rw [hg]; exact (below_size (by repeat (first | (with_reducible first | exact HB.out | apply below_alloc | apply pw_below_drewN | apply below_drew1 | refine below_set ?_ GE397.out) | exact HB.out))) : w.heap.size ≤ gb403)); have n5_ := Aside0.mk ((by rw [hg]; exact (below_size (by repeat (first | (with_reducible first | exact HB.out | apply below_alloc | apply pw_below_drewN | apply below_drew1 | refine below_set ?_ GE397.out) | exact HB.out))) : w.heap.size ≤ gb403)); have n6_ := Aside0.mk ((by rw [hg]; exact Nat.ne_of_lt (blk_lt (g := gb397) (o := .cells #[.int .i64 a0_0, .slice A0_1 l0_1.length c0_1] 25 (0, 0)) (by (with_reducible repeat (first | refine blk_drewN ?_ _ | refine blk_drew ?_ | refine blk_alloc ?_ _)); exact BK397.out)) : gb397 ≠ gb403)); have n7_ := Aside0.mk ((by rw [hg]; exact Nat.ne_of_gt (blk_lt (g := gb397) (o := .cells #[.int .i64 a0_0, .slice A0_1 l0_1.length c0_1] 25 (0, 0)) (by (with_reducible repeat (first | refine blk_drewN ?_ _ | refine blk_drew ?_ | refine blk_alloc ?_ _)); exact BK397.out)) : gb403 ≠ gb397)); clear HO402; clear BK397; clear HB; have HO402 := n0_; have BK397 := n1_; have HB := n2_; have BK403 := n3_; have GW403 := n4_; have GE403 := n5_; have NB397_403 := n6_; have NB403_397 := n7_; clear n0_ n1_ n2_ n3_ n4_ n5_ n6_ n7_; clear hb hbox hg; have hnb18 := NB403_397.out; have hnc18 := NB397_403.out; have hcz19_0 : w17.cell? ⟨gb403, 0, none⟩ = some (.int .i64 0) := (blk_cell BK403.out 0).trans rfl; have hcz19_1 : w17.cell? ⟨gb403, 1, none⟩ = some (.slice none 0 0) := (blk_cell BK403.out 1).trans rfl; have hfz19_0 := blk_frozen BK403.out 0; have hfz19_1 := blk_frozen BK403.out 1; obtain ⟨Ao20, co20, eo20⟩ := Kd.R_slice HO402.out; subst eo20) | ((with_reducible refine gate_callee (f := 40) rfl ?_); refine goesL_ (some 33) rfl rfl Try.func40 (by kernel_rfl) rfl #[.agg #[.int .i64 t399, .slice Ao20 t400.length co20]] rfl (by (try simp only [List.map_toArray, List.map_cons, List.map_nil]); first | done | rfl | (simp only [List.length_drop, List.length_take]; rfl)) ?_; (with_reducible refine (table_Oldest.calls t399 _ _ t400 t404 t405 t406 t407 t408 t409 _ ?side1 ?side2 A11.out).mono ?_); (case side1 => refine (Kd.R_reads' (e := 29) (base := w.heap.size) (ok := fun k_ => True) (n := t400.length) (c := co20) ?_).2.2; exact (by (with_reducible repeat (first | apply Kd.R_alloc | apply Kd.R_drewN | apply Kd.R_drew)); exact (Kd.R_mono (Kd.R_far (p := ⟨gb403, 1, none⟩) (Kd.R_far (p := ⟨gb403, 0, none⟩) (Kd.R_types HO402.out BK403.out (by decide)) (fun _ hk => hk.2) (.int .i64 t399)) (fun _ hk => hk.2) (.slice Ao20 t400.length co20)) (fun _ h_ => h_.1)))); (case side2 => exact (Kd.R_reads' HO402.out).2.1); rintro e w21 ⟨rfl, hb⟩; refine ⟨_, rfl, ?_⟩; have n0_ := Aside0.mk (Kd.R_below (by (with_reducible repeat (first | apply Kd.R_alloc | apply Kd.R_drewN | apply Kd.R_drew)); exact (Kd.R_mono (Kd.R_far (p := ⟨gb403, 1, none⟩) (Kd.R_far (p := ⟨gb403, 0, none⟩) (Kd.R_types HO402.out BK403.out (by decide)) (fun _ hk => hk.2) (.int .i64 t399)) (fun _ hk => hk.2) (.slice Ao20 t400.length co20)) (fun _ h_ => h_.1))) hb); have n1_ := Aside0.mk (blk_below (g := gb397) (o := .cells #[.int .i64 a0_0, .slice A0_1 l0_1.length c0_1] 25 (0, 0)) (by (with_reducible repeat (first | refine blk_drewN ?_ _ | refine blk_drew ?_ | refine blk_alloc ?_ _)); refine blk_far ?_ NB397_403.out _; (with_reducible repeat (first | refine blk_drewN ?_ _ | refine blk_drew ?_ | refine blk_alloc ?_ _)); refine blk_far ?_ NB397_403.out _; (with_reducible repeat (first | refine blk_drewN ?_ _ | refine blk_drew ?_ | refine blk_alloc ?_ _)); exact BK397.out) hb); have n2_ := Aside0.mk (blk_below (g := gb403) (o := .cells #[.int .i64 t399, .slice Ao20 t400.length co20] 25 (0, 0)) (by (with_reducible repeat (first | refine blk_drewN ?_ _ | refine blk_drew ?_ | refine blk_alloc ?_ _)); refine blk_put (cs := #[.int .i64 t399, .slice none 0 0]) ?_ 1 _ rfl; (with_reducible repeat (first | refine blk_drewN ?_ _ | refine blk_drew ?_ | refine blk_alloc ?_ _)); refine blk_put (cs := #[.int .i64 0, .slice none 0 0]) ?_ 0 _ rfl; (with_reducible repeat (first | refine blk_drewN ?_ _ | refine blk_drew ?_ | refine blk_alloc ?_ _)); exact BK403.out) hb); have n3_ := Aside0.mk (below_step (by repeat (first | (with_reducible first | exact HB.out | apply below_alloc | apply pw_below_drewN | apply below_drew1 | refine below_set ?_ GE397.out | refine below_set ?_ GE403.out) | exact HB.out)) hb); clear HO402; clear BK397; clear BK403; clear HB; have HO402 := n0_; have BK397 := n1_; have BK403 := n2_; have HB := n3_; clear n0_ n1_ n2_ n3_; (try clear hb); (try clear hb2); (try clear hk); (try clear hi)) | ((with_reducible refine gate_dst (N := 10) rfl ?_); refine box_event ?hg (N := 10) ?hd (cs := #[.int .i64 0, .int .i64 0, .int .i64 0, .int .i64 0]) (t := 29) ?hr ?_; (case hd => rfl); (case hg => rfl); (case hr => first | (go_simp; done) | (go_simp; rfl)); intro gb410 hg w22 hbox hb; have n0_ := Aside0.mk (Kd.R_below (Kd.R_elderB (by (with_reducible repeat (first | apply Kd.R_alloc | apply Kd.R_drewN | apply Kd.R_drew)); exact HO402.out) gb410 (Nat.le_of_eq hg.symm)) hb); have n1_ := Aside0.mk (blk_below (g := gb397) (o := .cells #[.int .i64 a0_0, .slice A0_1 l0_1.length c0_1] 25 (0, 0)) (by (with_reducible repeat (first | refine blk_drewN ?_ _ | refine blk_drew ?_ | refine blk_alloc ?_ _)); exact BK397.out) hb); have n2_ := Aside0.mk (blk_below (g := gb403) (o := .cells #[.int .i64 t399, .slice Ao20 t400.length co20] 25 (0, 0)) (by (with_reducible repeat (first | refine blk_drewN ?_ _ | refine blk_drew ?_ | refine blk_alloc ?_ _)); exact BK403.out) hb); have n3_ := Aside0.mk (below_step (by repeat (first | (with_reducible first | exact HB.out | apply below_alloc | apply pw_below_drewN | apply below_drew1 | refine below_set ?_ GE397.out | refine below_set ?_ GE403.out) | exact HB.out)) hb); have n4_ := Aside0.mk (hbox); have n5_ := Aside0.mk ((by rw [hg]; exact (below_size (by repeat (first | (with_reducible first | exact HB.out | apply below_alloc | apply pw_below_drewN | apply below_drew1 | refine below_set ?_ GE397.out | refine below_set ?_ GE403.out) | exact HB.out))) : w.heap.size ≤ gb410)); have n6_ := Aside0.mk ((by rw [hg]; exact (below_size (by repeat (first | (with_reducible first | exact HB.out | apply below_alloc | apply pw_below_drewN | apply below_drew1 | refine below_set ?_ GE397.out | refine below_set ?_ GE403.out) | exact HB.out))) : w.heap.size ≤ gb410)); have n7_ := Aside0.mk ((by rw [hg]; exact Nat.ne_of_lt (blk_lt (g := gb397) (o := .cells #[.int .i64 a0_0, .slice A0_1 l0_1.length c0_1] 25 (0, 0)) (by (with_reducible repeat (first | refine blk_drewN ?_ _ | refine blk_drew ?_ | refine blk_alloc ?_ _)); exact BK397.out)) : gb397 ≠ gb410)); have n8_ := Aside0.mk ((by rw [hg]; exact Nat.ne_of_gt (blk_lt (g := gb397) (o := .cells #[.int .i64 a0_0, .slice A0_1 l0_1.length c0_1] 25 (0, 0)) (by (with_reducible repeat (first | refine blk_drewN ?_ _ | refine blk_drew ?_ | refine blk_alloc ?_ _)); exact BK397.out)) : gb410 ≠ gb397)); have n9_ := Aside0.mk ((by rw [hg]; exact Nat.ne_of_lt (blk_lt (g := gb403) (o := .cells #[.int .i64 t399, .slice Ao20 t400.length co20] 25 (0, 0)) (by (with_reducible repeat (first | refine blk_drewN ?_ _ | refine blk_drew ?_ | refine blk_alloc ?_ _)); exact BK403.out)) : gb403 ≠ gb410)); have n10_ := Aside0.mk ((by rw [hg]; exact Nat.ne_of_gt (blk_lt (g := gb403) (o := .cells #[.int .i64 t399, .slice Ao20 t400.length co20] 25 (0, 0)) (by (with_reducible repeat (first | refine blk_drewN ?_ _ | refine blk_drew ?_ | refine blk_alloc ?_ _)); exact BK403.out)) : gb410 ≠ gb403)); clear HO402; clear BK397; clear BK403; clear HB; have HO402 := n0_; have BK397 := n1_; have BK403 := n2_; have HB := n3_; have BK410 := n4_; have GW410 := n5_; have GE410 := n6_; have NB397_410 := n7_; have NB410_397 := n8_; have NB403_410 := n9_; have NB410_403 := n10_; clear n0_ n1_ n2_ n3_ n4_ n5_ n6_ n7_ n8_ n9_ n10_; clear hb hbox hg; have hnb23 := NB410_397.out; have hnc23 := NB397_410.out; have hnb24 := NB410_403.out; have hnc24 := NB403_410.out; have hcz25_0 : w22.cell? ⟨gb410, 0, none⟩ = some (.int .i64 0) := (blk_cell BK410.out 0).trans rfl; have hcz25_1 : w22.cell? ⟨gb410, 1, none⟩ = some (.int .i64 0) := (blk_cell BK410.out 1).trans rfl; have hcz25_2 : w22.cell? ⟨gb410, 2, none⟩ = some (.int .i64 0) := (blk_cell BK410.out 2).trans rfl; have hcz25_3 : w22.cell? ⟨gb410, 3, none⟩ = some (.int .i64 0) := (blk_cell BK410.out 3).trans rfl; have hfz25_0 := blk_frozen BK410.out 0; have hfz25_1 := blk_frozen BK410.out 1; have hfz25_2 := blk_frozen BK410.out 2; have hfz25_3 := blk_frozen BK410.out 3; have hcz26_0 : w22.cell? ⟨gb397, 0, none⟩ = some (.int .i64 a0_0) := (blk_cell BK397.out 0).trans rfl; have hcz26_1 : w22.cell? ⟨gb397, 1, none⟩ = some (.slice A0_1 l0_1.length c0_1) := (blk_cell BK397.out 1).trans rfl; have hfz26_0 := blk_frozen BK397.out 0; have hfz26_1 := blk_frozen BK397.out 1) | ((with_reducible refine gate_callee (f := 41) rfl ?_); refine goesL_ (some 39) rfl rfl Try.func41 (by kernel_rfl) rfl #[.agg #[.int .i64 a0_0, .slice A0_1 l0_1.length c0_1]] rfl (by (try simp only [List.map_toArray, List.map_cons, List.map_nil]); first | done | rfl | (simp only [List.length_drop, List.length_take]; rfl)) ?_; (with_reducible refine (R21_Oldest.calls k a0_0 _ _ l0_1 t411 t412 t413 t414 t415 t416 _ ?side1 ?side2 A12.out).mono ?_); (case side1 => exact Kd.C_below HR0_1.out (by repeat (first | (with_reducible first | exact HB.out | apply below_alloc | apply pw_below_drewN | apply below_drew1 | refine below_set ?_ GE397.out | refine below_set ?_ GE403.out | refine below_set ?_ GE410.out) | exact HB.out))); (case side2 => exact HC0_1.out); rintro e w27 ⟨rfl, hb⟩; refine ⟨_, rfl, ?_⟩; have n0_ := Aside0.mk (Kd.R_below (by (with_reducible repeat (first | apply Kd.R_alloc | apply Kd.R_drewN | apply Kd.R_drew)); exact (Kd.R_mono (Kd.R_far (p := ⟨gb410, 3, none⟩) (Kd.R_far (p := ⟨gb410, 2, none⟩) (Kd.R_far (p := ⟨gb410, 1, none⟩) (Kd.R_far (p := ⟨gb410, 0, none⟩) (Kd.R_mono HO402.out (fun k_ hk => (⟨hk, hk.2⟩ : _ ∧ k_ ≠ gb410))) (fun _ hk => hk.2) (.int .i64 t404)) (fun _ hk => hk.2) (.int .i64 t405)) (fun _ hk => hk.2) (.int .i64 t406)) (fun _ hk => hk.2) (.int .i64 t407)) (fun _ h_ => h_.1))) hb); have n1_ := Aside0.mk (blk_below (g := gb397) (o := .cells #[.int .i64 a0_0, .slice A0_1 l0_1.length c0_1] 25 (0, 0)) (by (with_reducible repeat (first | refine blk_drewN ?_ _ | refine blk_drew ?_ | refine blk_alloc ?_ _)); refine blk_far ?_ NB397_410.out _; (with_reducible repeat (first | refine blk_drewN ?_ _ | refine blk_drew ?_ | refine blk_alloc ?_ _)); refine blk_far ?_ NB397_410.out _; (with_reducible repeat (first | refine blk_drewN ?_ _ | refine blk_drew ?_ | refine blk_alloc ?_ _)); refine blk_far ?_ NB397_410.out _; (with_reducible repeat (first | refine blk_drewN ?_ _ | refine blk_drew ?_ | refine blk_alloc ?_ _)); refine blk_far ?_ NB397_410.out _; (with_reducible repeat (first | refine blk_drewN ?_ _ | refine blk_drew ?_ | refine blk_alloc ?_ _)); exact BK397.out) hb); have n2_ := Aside0.mk (blk_below (g := gb403) (o := .cells #[.int .i64 t399, .slice Ao20 t400.length co20] 25 (0, 0)) (by (with_reducible repeat (first | refine blk_drewN ?_ _ | refine blk_drew ?_ | refine blk_alloc ?_ _)); refine blk_far ?_ NB403_410.out _; (with_reducible repeat (first | refine blk_drewN ?_ _ | refine blk_drew ?_ | refine blk_alloc ?_ _)); refine blk_far ?_ NB403_410.out _; (with_reducible repeat (first | refine blk_drewN ?_ _ | refine blk_drew ?_ | refine blk_alloc ?_ _)); refine blk_far ?_ NB403_410.out _; (with_reducible repeat (first | refine blk_drewN ?_ _ | refine blk_drew ?_ | refine blk_alloc ?_ _)); refine blk_far ?_ NB403_410.out _; (with_reducible repeat (first | refine blk_drewN ?_ _ | refine blk_drew ?_ | refine blk_alloc ?_ _)); exact BK403.out) hb); have n3_ := Aside0.mk (blk_below (g := gb410) (o := .cells #[.int .i64 t404, .int .i64 t405, .int .i64 t406, .int .i64 t407] 29 (0, 0)) (by (with_reducible repeat (first | refine blk_drewN ?_ _ | refine blk_drew ?_ | refine blk_alloc ?_ _)); refine blk_put (cs := #[.int .i64 t404, .int .i64 t405, .int .i64 t406, .int .i64 0]) ?_ 3 _ rfl; (with_reducible repeat (first | refine blk_drewN ?_ _ | refine blk_drew ?_ | refine blk_alloc ?_ _)); refine blk_put (cs := #[.int .i64 t404, .int .i64 t405, .int .i64 0, .int .i64 0]) ?_ 2 _ rfl; (with_reducible repeat (first | refine blk_drewN ?_ _ | refine blk_drew ?_ | refine blk_alloc ?_ _)); refine blk_put (cs := #[.int .i64 t404, .int .i64 0, .int .i64 0, .int .i64 0]) ?_ 1 _ rfl; (with_reducible repeat (first | refine blk_drewN ?_ _ | refine blk_drew ?_ | refine blk_alloc ?_ _)); refine blk_put (cs := #[.int .i64 0, .int .i64 0, .int .i64 0, .int .i64 0]) ?_ 0 _ rfl; (with_reducible repeat (first | refine blk_drewN ?_ _ | refine blk_drew ?_ | refine blk_alloc ?_ _)); exact BK410.out) hb); have n4_ := Aside0.mk (below_step (by repeat (first | (with_reducible first | exact HB.out | apply below_alloc | apply pw_below_drewN | apply below_drew1 | refine below_set ?_ GE397.out | refine below_set ?_ GE403.out | refine below_set ?_ GE410.out) | exact HB.out)) hb); clear HO402; clear BK397; clear BK403; clear BK410; clear HB; have HO402 := n0_; have BK397 := n1_; have BK403 := n2_; have BK410 := n3_; have HB := n4_; clear n0_ n1_ n2_ n3_ n4_; (try clear hb); (try clear hb2); (try clear hk); (try clear hi)) | ((with_reducible refine gate_dst (N := 13) rfl ?_); refine box_event ?hg (N := 13) ?hd (cs := #[.int .i64 0, .int .i64 0, .int .i64 0, .int .i64 0]) (t := 29) ?hr ?_; (case hd => rfl); (case hg => rfl); (case hr => first | (go_simp; done) | (go_simp; rfl)); intro gb417 hg w28 hbox hb; have n0_ := Aside0.mk (Kd.R_below (Kd.R_elderB (by (with_reducible repeat (first | apply Kd.R_alloc | apply Kd.R_drewN | apply Kd.R_drew)); exact HO402.out) gb417 (Nat.le_of_eq hg.symm)) hb); have n1_ := Aside0.mk (blk_below (g := gb397) (o := .cells #[.int .i64 a0_0, .slice A0_1 l0_1.length c0_1] 25 (0, 0)) (by (with_reducible repeat (first | refine blk_drewN ?_ _ | refine blk_drew ?_ | refine blk_alloc ?_ _)); exact BK397.out) hb); have n2_ := Aside0.mk (blk_below (g := gb403) (o := .cells #[.int .i64 t399, .slice Ao20 t400.length co20] 25 (0, 0)) (by (with_reducible repeat (first | refine blk_drewN ?_ _ | refine blk_drew ?_ | refine blk_alloc ?_ _)); exact BK403.out) hb); have n3_ := Aside0.mk (blk_below (g := gb410) (o := .cells #[.int .i64 t404, .int .i64 t405, .int .i64 t406, .int .i64 t407] 29 (0, 0)) (by (with_reducible repeat (first | refine blk_drewN ?_ _ | refine blk_drew ?_ | refine blk_alloc ?_ _)); exact BK410.out) hb); have n4_ := Aside0.mk (below_step (by repeat (first | (with_reducible first | exact HB.out | apply below_alloc | apply pw_below_drewN | apply below_drew1 | refine below_set ?_ GE397.out | refine below_set ?_ GE403.out | refine below_set ?_ GE410.out) | exact HB.out)) hb); have n5_ := Aside0.mk (hbox); have n6_ := Aside0.mk ((by rw [hg]; exact (below_size (by repeat (first | (with_reducible first | exact HB.out | apply below_alloc | apply pw_below_drewN | apply below_drew1 | refine below_set ?_ GE397.out | refine below_set ?_ GE403.out | refine below_set ?_ GE410.out) | exact HB.out))) : w.heap.size ≤ gb417)); have n7_ := Aside0.mk ((by rw [hg]; exact (below_size (by repeat (first | (with_reducible first | exact HB.out | apply below_alloc | apply pw_below_drewN | apply below_drew1 | refine below_set ?_ GE397.out | refine below_set ?_ GE403.out | refine below_set ?_ GE410.out) | exact HB.out))) : w.heap.size ≤ gb417)); have n8_ := Aside0.mk ((by rw [hg]; exact Nat.ne_of_lt (blk_lt (g := gb397) (o := .cells #[.int .i64 a0_0, .slice A0_1 l0_1.length c0_1] 25 (0, 0)) (by (with_reducible repeat (first | refine blk_drewN ?_ _ | refine blk_drew ?_ | refine blk_alloc ?_ _)); exact BK397.out)) : gb397 ≠ gb417)); have n9_ := Aside0.mk ((by rw [hg]; exact Nat.ne_of_gt (blk_lt (g := gb397) (o := .cells #[.int .i64 a0_0, .slice A0_1 l0_1.length c0_1] 25 (0, 0)) (by (with_reducible repeat (first | refine blk_drewN ?_ _ | refine blk_drew ?_ | refine blk_alloc ?_ _)); exact BK397.out)) : gb417 ≠ gb397)); have n10_ := Aside0.mk ((by rw [hg]; exact Nat.ne_of_lt (blk_lt (g := gb403) (o := .cells #[.int .i64 t399, .slice Ao20 t400.length co20] 25 (0, 0)) (by (with_reducible repeat (first | refine blk_drewN ?_ _ | refine blk_drew ?_ | refine blk_alloc ?_ _)); exact BK403.out)) : gb403 ≠ gb417)); have n11_ := Aside0.mk ((by rw [hg]; exact Nat.ne_of_gt (blk_lt (g := gb403) (o := .cells #[.int .i64 t399, .slice Ao20 t400.length co20] 25 (0, 0)) (by (with_reducible repeat (first | refine blk_drewN ?_ _ | refine blk_drew ?_ | refine blk_alloc ?_ _)); exact BK403.out)) : gb417 ≠ gb403)); have n12_ := Aside0.mk ((by rw [hg]; exact Nat.ne_of_lt (blk_lt (g := gb410) (o := .cells #[.int .i64 t404, .int .i64 t405, .int .i64 t406, .int .i64 t407] 29 (0, 0)) (by (with_reducible repeat (first | refine blk_drewN ?_ _ | refine blk_drew ?_ | refine blk_alloc ?_ _)); exact BK410.out)) : gb410 ≠ gb417)); have n13_ := Aside0.mk ((by rw [hg]; exact Nat.ne_of_gt (blk_lt (g := gb410) (o := .cells #[.int .i64 t404, .int .i64 t405, .int .i64 t406, .int .i64 t407] 29 (0, 0)) (by (with_reducible repeat (first | refine blk_drewN ?_ _ | refine blk_drew ?_ | refine blk_alloc ?_ _)); exact BK410.out)) : gb417 ≠ gb410)); clear HO402; clear BK397; clear BK403; clear BK410; clear HB; have HO402 := n0_; have BK397 := n1_; have BK403 := n2_; have BK410 := n3_; have HB := n4_; have BK417 := n5_; have GW417 := n6_; have GE417 := n7_; have NB397_417 := n8_; have NB417_397 := n9_; have NB403_417 := n10_; have NB417_403 := n11_; have NB410_417 := n12_; have NB417_410 := n13_; clear n0_ n1_ n2_ n3_ n4_ n5_ n6_ n7_ n8_ n9_ n10_ n11_ n12_ n13_; clear hb hbox hg; have hnb29 := NB417_397.out; have hnc29 := NB397_417.out; have hnb30 := NB417_403.out; have hnc30 := NB403_417.out; have hnb31 := NB417_410.out; have hnc31 := NB410_417.out; have hcz32_0 : w28.cell? ⟨gb417, 0, none⟩ = some (.int .i64 0) := (blk_cell BK417.out 0).trans rfl; have hcz32_1 : w28.cell? ⟨gb417, 1, none⟩ = some (.int .i64 0) := (blk_cell BK417.out 1).trans rfl; have hcz32_2 : w28.cell? ⟨gb417, 2, none⟩ = some (.int .i64 0) := (blk_cell BK417.out 2).trans rfl; have hcz32_3 : w28.cell? ⟨gb417, 3, none⟩ = some (.int .i64 0) := (blk_cell BK417.out 3).trans rfl; have hfz32_0 := blk_frozen BK417.out 0; have hfz32_1 := blk_frozen BK417.out 1; have hfz32_2 := blk_frozen BK417.out 2; have hfz32_3 := blk_frozen BK417.out 3))
    (try simp only [Act.put, List.setIfInBounds_toArray, List.set_cons_zero, List.set_cons_succ])
    go_cut [55] (fun v55 wc => ∃ (kq : Nat) (x55_12 : Bool), v55 = .bool x55_12 ∧ Aside0 (L21_TableLooks.j0 kq a1 a2 a3 x55_12 a0_0 l0_1 t399 t400 = some true) ∧ Aside0 (kq ≤ k) ∧ Aside0 (Kd.R k29 29 wc w.heap.size (fun k_ => k_ ≠ gb410 ∧ k_ ≠ gb417) (.slice Ao20 t400.length co20) t400) ∧ Aside0 (wc.heap[gb397]? = some (.cells #[.int .i64 a0_0, (.slice A0_1 l0_1.length c0_1)] 25 (0, 0))) ∧ Aside0 (wc.heap[gb403]? = some (.cells #[.int .i64 t399, (.slice Ao20 t400.length co20)] 25 (0, 0))) ∧ Aside0 (wc.heap[gb410]? = some (.cells #[.int .i64 t404, .int .i64 t405, .int .i64 t406, .int .i64 t407] 29 (0, 0))) ∧ Aside0 (wc.heap[gb417]? = some (.cells #[.int .i64 t411, .int .i64 t412, .int .i64 t413, .int .i64 t414] 29 (0, 0))) ∧ Aside0 (Below w.heap.size w wc))
    case first =>
      have H := HC13.out
      clear HC13
      by_cases c33 : (!(t404 == t411) || (!(t405 == t412) || (!(t406 == t413) || (!(t407 == t414))))) = true
      · rw [if_pos c33] at H
        have c33b0 : (!(t404 == t411) || (!(t405 == t412) || (!(t406 == t413) || (!(t407 == t414))))) = true := c33
        clear c33
        (first | rw [c33b0] | (simp only [i64_w, i32_w]; rw [c33b0]) | skip)
        exact absurd H (by repeat (first | exact never_none | exact never_false | refine never_ite ?_ ?_ | refine never_bind (fun _ => ?_) | exact L21_TableLooks.j0_d55true _ _ _ _ _ _ _ _ | exact L21_TableLooks.j1_d103true _ _ _ _ _ _ _))
      · rw [if_neg c33] at H
        have c33b0 : (!(t404 == t411) || (!(t405 == t412) || (!(t406 == t413) || (!(t407 == t414))))) = false := by simpa using c33
        clear c33
        (first | rw [c33b0] | (simp only [i64_w, i32_w]; rw [c33b0]) | skip)
        by_cases c34 : (t408 != t415) = true
        · rw [if_pos c34] at H
          have c34b0 : (t408 != t415) = true := c34
          (try (have c34b1 : decide (t408 = t415) = false := by simpa using c34))
          (try (have c34b2 : (t408 == t415) = false := by simpa using c34))
          (try (have c34b3 : ¬ (t408 = t415) := by simpa using c34))
          clear c34
          exact absurd H (by repeat (first | exact never_none | exact never_false | refine never_ite ?_ ?_ | refine never_bind (fun _ => ?_) | exact L21_TableLooks.j0_d55true _ _ _ _ _ _ _ _ | exact L21_TableLooks.j1_d103true _ _ _ _ _ _ _))
        · rw [if_neg c34] at H
          have c34b0 : (t408 != t415) = false := by simpa using c34
          (try (have c34b1 : decide (t408 = t415) = true := by simpa using c34))
          (try (have c34b2 : (t408 == t415) = true := by simpa using c34))
          clear c34
          have H' := Aside0.mk H
          clear H
          have hnb35 := NB410_397.out
          have hnc35 := NB397_410.out
          have hnb36 := NB410_403.out
          have hnc36 := NB403_410.out
          have hnb37 := NB410_417.out
          have hnc37 := NB417_410.out
          have hcz38_0 : w28.cell? ⟨gb410, 0, none⟩ = some (.int .i64 t404) := (blk_cell BK410.out 0).trans rfl
          have hcz38_1 : w28.cell? ⟨gb410, 1, none⟩ = some (.int .i64 t405) := (blk_cell BK410.out 1).trans rfl
          have hcz38_2 : w28.cell? ⟨gb410, 2, none⟩ = some (.int .i64 t406) := (blk_cell BK410.out 2).trans rfl
          have hcz38_3 : w28.cell? ⟨gb410, 3, none⟩ = some (.int .i64 t407) := (blk_cell BK410.out 3).trans rfl
          have hfz38_0 := blk_frozen BK410.out 0
          have hfz38_1 := blk_frozen BK410.out 1
          have hfz38_2 := blk_frozen BK410.out 2
          have hfz38_3 := blk_frozen BK410.out 3
          have hnb39 := NB417_397.out
          have hnc39 := NB397_417.out
          have hnb40 := NB417_403.out
          have hnc40 := NB403_417.out
          have hcz41_0 : w28.cell? ⟨gb417, 0, none⟩ = some (.int .i64 0) := (blk_cell BK417.out 0).trans rfl
          have hcz41_1 : w28.cell? ⟨gb417, 1, none⟩ = some (.int .i64 0) := (blk_cell BK417.out 1).trans rfl
          have hcz41_2 : w28.cell? ⟨gb417, 2, none⟩ = some (.int .i64 0) := (blk_cell BK417.out 2).trans rfl
          have hcz41_3 : w28.cell? ⟨gb417, 3, none⟩ = some (.int .i64 0) := (blk_cell BK417.out 3).trans rfl
          have hfz41_0 := blk_frozen BK417.out 0
          have hfz41_1 := blk_frozen BK417.out 1
          have hfz41_2 := blk_frozen BK417.out 2
          have hfz41_3 := blk_frozen BK417.out 3
          go_wp2
          go_meet
          case rel => exact ⟨_, ((t409 != t416)), (by first | rfl | (simp; done) | (simp [*]; done)), H', ⟨by first | omega | exact Nat.le_refl _⟩, ⟨by (with_reducible repeat (first | apply Kd.R_alloc | apply Kd.R_drewN | apply Kd.R_drew)); exact Kd.R_mono (Kd.R_far (p := ⟨gb417, 3, none⟩) (Kd.R_far (p := ⟨gb417, 2, none⟩) (Kd.R_far (p := ⟨gb417, 1, none⟩) (Kd.R_far (p := ⟨gb417, 0, none⟩) (Kd.R_mono HO402.out (fun k_ hk => (⟨hk, hk.2⟩ : _ ∧ k_ ≠ gb417))) (fun _ hk => hk.2) (.int .i64 t411)) (fun _ hk => hk.2) (.int .i64 t412)) (fun _ hk => hk.2) (.int .i64 t413)) (fun _ hk => hk.2) (.int .i64 t414)) (fun _ hk => ⟨hk.1.1.2, hk.1.2⟩)⟩, ⟨by (with_reducible repeat (first | refine blk_drewN ?_ _ | refine blk_drew ?_ | refine blk_alloc ?_ _)); refine blk_far ?_ NB397_417.out _; (with_reducible repeat (first | refine blk_drewN ?_ _ | refine blk_drew ?_ | refine blk_alloc ?_ _)); refine blk_far ?_ NB397_417.out _; (with_reducible repeat (first | refine blk_drewN ?_ _ | refine blk_drew ?_ | refine blk_alloc ?_ _)); refine blk_far ?_ NB397_417.out _; (with_reducible repeat (first | refine blk_drewN ?_ _ | refine blk_drew ?_ | refine blk_alloc ?_ _)); refine blk_far ?_ NB397_417.out _; (with_reducible repeat (first | refine blk_drewN ?_ _ | refine blk_drew ?_ | refine blk_alloc ?_ _)); exact BK397.out⟩, ⟨by (with_reducible repeat (first | refine blk_drewN ?_ _ | refine blk_drew ?_ | refine blk_alloc ?_ _)); refine blk_far ?_ NB403_417.out _; (with_reducible repeat (first | refine blk_drewN ?_ _ | refine blk_drew ?_ | refine blk_alloc ?_ _)); refine blk_far ?_ NB403_417.out _; (with_reducible repeat (first | refine blk_drewN ?_ _ | refine blk_drew ?_ | refine blk_alloc ?_ _)); refine blk_far ?_ NB403_417.out _; (with_reducible repeat (first | refine blk_drewN ?_ _ | refine blk_drew ?_ | refine blk_alloc ?_ _)); refine blk_far ?_ NB403_417.out _; (with_reducible repeat (first | refine blk_drewN ?_ _ | refine blk_drew ?_ | refine blk_alloc ?_ _)); exact BK403.out⟩, ⟨by (with_reducible repeat (first | refine blk_drewN ?_ _ | refine blk_drew ?_ | refine blk_alloc ?_ _)); refine blk_far ?_ NB410_417.out _; (with_reducible repeat (first | refine blk_drewN ?_ _ | refine blk_drew ?_ | refine blk_alloc ?_ _)); refine blk_far ?_ NB410_417.out _; (with_reducible repeat (first | refine blk_drewN ?_ _ | refine blk_drew ?_ | refine blk_alloc ?_ _)); refine blk_far ?_ NB410_417.out _; (with_reducible repeat (first | refine blk_drewN ?_ _ | refine blk_drew ?_ | refine blk_alloc ?_ _)); refine blk_far ?_ NB410_417.out _; (with_reducible repeat (first | refine blk_drewN ?_ _ | refine blk_drew ?_ | refine blk_alloc ?_ _)); exact BK410.out⟩, ⟨by (with_reducible repeat (first | refine blk_drewN ?_ _ | refine blk_drew ?_ | refine blk_alloc ?_ _)); refine blk_put (cs := #[.int .i64 t411, .int .i64 t412, .int .i64 t413, .int .i64 0]) ?_ 3 _ rfl; (with_reducible repeat (first | refine blk_drewN ?_ _ | refine blk_drew ?_ | refine blk_alloc ?_ _)); refine blk_put (cs := #[.int .i64 t411, .int .i64 t412, .int .i64 0, .int .i64 0]) ?_ 2 _ rfl; (with_reducible repeat (first | refine blk_drewN ?_ _ | refine blk_drew ?_ | refine blk_alloc ?_ _)); refine blk_put (cs := #[.int .i64 t411, .int .i64 0, .int .i64 0, .int .i64 0]) ?_ 1 _ rfl; (with_reducible repeat (first | refine blk_drewN ?_ _ | refine blk_drew ?_ | refine blk_alloc ?_ _)); refine blk_put (cs := #[.int .i64 0, .int .i64 0, .int .i64 0, .int .i64 0]) ?_ 0 _ rfl; (with_reducible repeat (first | refine blk_drewN ?_ _ | refine blk_drew ?_ | refine blk_alloc ?_ _)); exact BK417.out⟩, ⟨by repeat (first | (with_reducible first | exact HB.out | apply below_alloc | apply pw_below_drewN | apply below_drew1 | refine below_set ?_ GE397.out | refine below_set ?_ GE403.out | refine below_set ?_ GE410.out | refine below_set ?_ GE417.out) | exact HB.out)⟩⟩
    case rest =>
      clear HC13
      try clear c1
      try clear c2
      try clear p2
      try clear c3
      try clear c4
      try clear c5
      try clear c5b0
      try clear c5b1
      try clear c6
      try clear c18
      try clear c23
      try clear c24
      try clear c29
      try clear c30
      try clear c31
      try clear c33
      try clear c33b0
      try clear c34
      try clear c34b0
      try clear c34b1
      try clear c34b2
      try clear c35
      try clear c36
      try clear c37
      try clear c39
      try clear c40
      try clear c41
      try clear hcz15_0
      try clear hcz15_1
      try clear hcz19_0
      try clear hcz19_1
      try clear hcz25_0
      try clear hcz25_1
      try clear hcz25_2
      try clear hcz25_3
      try clear hcz26_0
      try clear hcz26_1
      try clear hcz32_0
      try clear hcz32_1
      try clear hcz32_2
      try clear hcz32_3
      try clear hcz38_0
      try clear hcz38_1
      try clear hcz38_2
      try clear hcz38_3
      try clear hcz41_0
      try clear hcz41_1
      try clear hcz41_2
      try clear hcz41_3
      try clear hcz8_0
      try clear hcz8_1
      try clear hfz15_0
      try clear hfz15_1
      try clear hfz19_0
      try clear hfz19_1
      try clear hfz25_0
      try clear hfz25_1
      try clear hfz25_2
      try clear hfz25_3
      try clear hfz26_0
      try clear hfz26_1
      try clear hfz32_0
      try clear hfz32_1
      try clear hfz32_2
      try clear hfz32_3
      try clear hfz38_0
      try clear hfz38_1
      try clear hfz38_2
      try clear hfz38_3
      try clear hfz41_0
      try clear hfz41_1
      try clear hfz41_2
      try clear hfz41_3
      try clear hfz8_0
      try clear hfz8_1
      obtain ⟨kq, x55_12, rfl, HA, HJ12, HO_404001, BK397, BK403, BK410, BK417, HB⟩ := hcut
      cases kq with
      | zero => exact absurd HA.out (by simp [L21_TableLooks.j0])
      | succ kj12 =>
        have H := HA.out
        clear HA
        simp only [L21_TableLooks.j0] at H
        by_cases c42 : x55_12 = true
        · subst c42
          have H1 : (some false) = some true := by rw [if_pos rfl] at H; exact H
          clear H
          have H := H1
          clear H1
          exact absurd H (by repeat (first | exact never_none | exact never_false | refine never_ite ?_ ?_ | refine never_bind (fun _ => ?_) | exact L21_TableLooks.j0_d55true _ _ _ _ _ _ _ _ | exact L21_TableLooks.j1_d103true _ _ _ _ _ _ _))
        · replace c42 := Bool.eq_false_iff.mpr c42
          subst c42
          have H1 : ((table_Halls.f kj12 t399 t400).bind fun bt418 => ((R21_Halls.f kj12 a0_0 l0_1).bind fun bt421 => ((table_Of.f t399 t400 a1).bind fun bt424 => ((R21_Of.f kj12 a0_0 l0_1 a1).bind fun bt428 => (if bt418.1 = bt421.1 then (if bt418.2.1 = bt421.2.1 then (if bt418.2.2 = bt421.2.2 then ((K_SameCallsIn.f kj12 bt424.1 bt428.1).bind fun t432 => (if t432 = true then (L21_TableLooks.j1 kj12 a2 a3 (bt424.2 != bt428.2) a0_0 l0_1 t399 t400) else (L21_TableLooks.j1 kj12 a2 a3 true a0_0 l0_1 t399 t400))) else (L21_TableLooks.j1 kj12 a2 a3 true a0_0 l0_1 t399 t400)) else (L21_TableLooks.j1 kj12 a2 a3 true a0_0 l0_1 t399 t400)) else (L21_TableLooks.j1 kj12 a2 a3 true a0_0 l0_1 t399 t400)))))) = some true := by rw [if_neg (show ¬ (false = true) by decide)] at H; exact H
          clear H
          have H := H1
          clear H1
          replace H := Option.bind_eq_some_iff.mp H
          obtain ⟨⟨t418, t419, t420⟩, A430, H⟩ := H
          replace H : ((R21_Halls.f kj12 a0_0 l0_1).bind fun bt421 => ((table_Of.f t399 t400 a1).bind fun bt424 => ((R21_Of.f kj12 a0_0 l0_1 a1).bind fun bt428 => (if t418 = bt421.1 then (if t419 = bt421.2.1 then (if t420 = bt421.2.2 then ((K_SameCallsIn.f kj12 bt424.1 bt428.1).bind fun t432 => (if t432 = true then (L21_TableLooks.j1 kj12 a2 a3 (bt424.2 != bt428.2) a0_0 l0_1 t399 t400) else (L21_TableLooks.j1 kj12 a2 a3 true a0_0 l0_1 t399 t400))) else (L21_TableLooks.j1 kj12 a2 a3 true a0_0 l0_1 t399 t400)) else (L21_TableLooks.j1 kj12 a2 a3 true a0_0 l0_1 t399 t400)) else (L21_TableLooks.j1 kj12 a2 a3 true a0_0 l0_1 t399 t400))))) = some true := H
          have A43 := Aside0.mk A430
          clear A430
          replace H := Option.bind_eq_some_iff.mp H
          obtain ⟨⟨t421, t422, t423⟩, A440, H⟩ := H
          replace H : ((table_Of.f t399 t400 a1).bind fun bt424 => ((R21_Of.f kj12 a0_0 l0_1 a1).bind fun bt428 => (if t418 = t421 then (if t419 = t422 then (if t420 = t423 then ((K_SameCallsIn.f kj12 bt424.1 bt428.1).bind fun t432 => (if t432 = true then (L21_TableLooks.j1 kj12 a2 a3 (bt424.2 != bt428.2) a0_0 l0_1 t399 t400) else (L21_TableLooks.j1 kj12 a2 a3 true a0_0 l0_1 t399 t400))) else (L21_TableLooks.j1 kj12 a2 a3 true a0_0 l0_1 t399 t400)) else (L21_TableLooks.j1 kj12 a2 a3 true a0_0 l0_1 t399 t400)) else (L21_TableLooks.j1 kj12 a2 a3 true a0_0 l0_1 t399 t400)))) = some true := H
          have A44 := Aside0.mk A440
          clear A440
          replace H := Option.bind_eq_some_iff.mp H
          obtain ⟨⟨t424, t427⟩, A450, H⟩ := H
          replace H : ((R21_Of.f kj12 a0_0 l0_1 a1).bind fun bt428 => (if t418 = t421 then (if t419 = t422 then (if t420 = t423 then ((K_SameCallsIn.f kj12 t424 bt428.1).bind fun t432 => (if t432 = true then (L21_TableLooks.j1 kj12 a2 a3 (t427 != bt428.2) a0_0 l0_1 t399 t400) else (L21_TableLooks.j1 kj12 a2 a3 true a0_0 l0_1 t399 t400))) else (L21_TableLooks.j1 kj12 a2 a3 true a0_0 l0_1 t399 t400)) else (L21_TableLooks.j1 kj12 a2 a3 true a0_0 l0_1 t399 t400)) else (L21_TableLooks.j1 kj12 a2 a3 true a0_0 l0_1 t399 t400))) = some true := H
          have A45 := Aside0.mk A450
          clear A450
          replace H := Option.bind_eq_some_iff.mp H
          obtain ⟨⟨t428, t431⟩, A460, H⟩ := H
          replace H : (if t418 = t421 then (if t419 = t422 then (if t420 = t423 then ((K_SameCallsIn.f kj12 t424 t428).bind fun t432 => (if t432 = true then (L21_TableLooks.j1 kj12 a2 a3 (t427 != t431) a0_0 l0_1 t399 t400) else (L21_TableLooks.j1 kj12 a2 a3 true a0_0 l0_1 t399 t400))) else (L21_TableLooks.j1 kj12 a2 a3 true a0_0 l0_1 t399 t400)) else (L21_TableLooks.j1 kj12 a2 a3 true a0_0 l0_1 t399 t400)) else (L21_TableLooks.j1 kj12 a2 a3 true a0_0 l0_1 t399 t400)) = some true := H
          have A46 := Aside0.mk A460
          clear A460
          have HC47 := Aside0.mk H
          clear H
          have hnb48 := NB403_397.out
          have hnc48 := NB397_403.out
          have hnb49 := NB403_410.out
          have hnc49 := NB410_403.out
          have hnb50 := NB403_417.out
          have hnc50 := NB417_403.out
          have hcz51_0 : wc.cell? ⟨gb403, 0, none⟩ = some (.int .i64 t399) := (blk_cell BK403.out 0).trans rfl
          have hcz51_1 : wc.cell? ⟨gb403, 1, none⟩ = some (.slice Ao20 t400.length co20) := (blk_cell BK403.out 1).trans rfl
          have hfz51_0 := blk_frozen BK403.out 0
          have hfz51_1 := blk_frozen BK403.out 1
          go_upto_region 12 with (first | ((with_reducible refine gate_callee (f := 42) rfl ?_); refine goesL_ (some 58) rfl rfl Try.func42 (by kernel_rfl) rfl #[.agg #[.int .i64 t399, .slice Ao20 t400.length co20]] rfl (by (try simp only [List.map_toArray, List.map_cons, List.map_nil]); first | done | rfl | (simp only [List.length_drop, List.length_take]; rfl)) ?_; (with_reducible refine (table_Halls.calls kj12 t399 _ _ t400 t418 t419 t420 _ ?side1 ?side2 A43.out).mono ?_); (case side1 => repeat (first | exact (Kd.R_reads' HO_404001.out).2.2 | (with_reducible refine Kd.C_alloc ?_ _) | (with_reducible refine Kd.C_drewN ?_ _) | (with_reducible refine Kd.C_drew ?_))); (case side2 => exact (Kd.R_reads' HO_404001.out).2.1); rintro e w52 ⟨rfl, hb⟩; refine ⟨_, rfl, ?_⟩; have n0_ := Aside0.mk (Kd.R_below (by (with_reducible repeat (first | apply Kd.R_alloc | apply Kd.R_drewN | apply Kd.R_drew)); exact HO_404001.out) hb); have n1_ := Aside0.mk (blk_below (g := gb397) (o := .cells #[.int .i64 a0_0, .slice A0_1 l0_1.length c0_1] 25 (0, 0)) (by (with_reducible repeat (first | refine blk_drewN ?_ _ | refine blk_drew ?_ | refine blk_alloc ?_ _)); exact BK397.out) hb); have n2_ := Aside0.mk (blk_below (g := gb403) (o := .cells #[.int .i64 t399, .slice Ao20 t400.length co20] 25 (0, 0)) (by (with_reducible repeat (first | refine blk_drewN ?_ _ | refine blk_drew ?_ | refine blk_alloc ?_ _)); exact BK403.out) hb); have n3_ := Aside0.mk (blk_below (g := gb410) (o := .cells #[.int .i64 t404, .int .i64 t405, .int .i64 t406, .int .i64 t407] 29 (0, 0)) (by (with_reducible repeat (first | refine blk_drewN ?_ _ | refine blk_drew ?_ | refine blk_alloc ?_ _)); exact BK410.out) hb); have n4_ := Aside0.mk (blk_below (g := gb417) (o := .cells #[.int .i64 t411, .int .i64 t412, .int .i64 t413, .int .i64 t414] 29 (0, 0)) (by (with_reducible repeat (first | refine blk_drewN ?_ _ | refine blk_drew ?_ | refine blk_alloc ?_ _)); exact BK417.out) hb); have n5_ := Aside0.mk (below_step (by repeat (first | (with_reducible first | exact HB.out | apply below_alloc | apply pw_below_drewN | apply below_drew1 | refine below_set ?_ GE397.out | refine below_set ?_ GE403.out | refine below_set ?_ GE410.out | refine below_set ?_ GE417.out) | exact HB.out)) hb); clear HO_404001; clear BK397; clear BK403; clear BK410; clear BK417; clear HB; have HO_404001 := n0_; have BK397 := n1_; have BK403 := n2_; have BK410 := n3_; have BK417 := n4_; have HB := n5_; clear n0_ n1_ n2_ n3_ n4_ n5_; (try clear hb); (try clear hb2); (try clear hk); (try clear hi); have hnb53 := NB397_410.out; have hnc53 := NB410_397.out; have hnb54 := NB397_417.out; have hnc54 := NB417_397.out; have hcz55_0 : w52.cell? ⟨gb397, 0, none⟩ = some (.int .i64 a0_0) := (blk_cell BK397.out 0).trans rfl; have hcz55_1 : w52.cell? ⟨gb397, 1, none⟩ = some (.slice A0_1 l0_1.length c0_1) := (blk_cell BK397.out 1).trans rfl; have hfz55_0 := blk_frozen BK397.out 0; have hfz55_1 := blk_frozen BK397.out 1) | ((with_reducible refine gate_callee (f := 43) rfl ?_); refine goesL_ (some 64) rfl rfl Try.func43 (by kernel_rfl) rfl #[.agg #[.int .i64 a0_0, .slice A0_1 l0_1.length c0_1]] rfl (by (try simp only [List.map_toArray, List.map_cons, List.map_nil]); first | done | rfl | (simp only [List.length_drop, List.length_take]; rfl)) ?_; (with_reducible refine (R21_Halls.calls kj12 a0_0 _ _ l0_1 t421 t422 t423 _ ?side1 ?side2 A44.out).mono ?_); (case side1 => repeat (first | exact (Kd.C_below HR0_1.out HB.out) | (with_reducible refine Kd.C_alloc ?_ _) | (with_reducible refine Kd.C_drewN ?_ _) | (with_reducible refine Kd.C_drew ?_))); (case side2 => exact HC0_1.out); rintro e w56 ⟨rfl, hb⟩; refine ⟨_, rfl, ?_⟩; have n0_ := Aside0.mk (Kd.R_below (by (with_reducible repeat (first | apply Kd.R_alloc | apply Kd.R_drewN | apply Kd.R_drew)); exact HO_404001.out) hb); have n1_ := Aside0.mk (blk_below (g := gb397) (o := .cells #[.int .i64 a0_0, .slice A0_1 l0_1.length c0_1] 25 (0, 0)) (by (with_reducible repeat (first | refine blk_drewN ?_ _ | refine blk_drew ?_ | refine blk_alloc ?_ _)); exact BK397.out) hb); have n2_ := Aside0.mk (blk_below (g := gb403) (o := .cells #[.int .i64 t399, .slice Ao20 t400.length co20] 25 (0, 0)) (by (with_reducible repeat (first | refine blk_drewN ?_ _ | refine blk_drew ?_ | refine blk_alloc ?_ _)); exact BK403.out) hb); have n3_ := Aside0.mk (blk_below (g := gb410) (o := .cells #[.int .i64 t404, .int .i64 t405, .int .i64 t406, .int .i64 t407] 29 (0, 0)) (by (with_reducible repeat (first | refine blk_drewN ?_ _ | refine blk_drew ?_ | refine blk_alloc ?_ _)); exact BK410.out) hb); have n4_ := Aside0.mk (blk_below (g := gb417) (o := .cells #[.int .i64 t411, .int .i64 t412, .int .i64 t413, .int .i64 t414] 29 (0, 0)) (by (with_reducible repeat (first | refine blk_drewN ?_ _ | refine blk_drew ?_ | refine blk_alloc ?_ _)); exact BK417.out) hb); have n5_ := Aside0.mk (below_step (by repeat (first | (with_reducible first | exact HB.out | apply below_alloc | apply pw_below_drewN | apply below_drew1 | refine below_set ?_ GE397.out | refine below_set ?_ GE403.out | refine below_set ?_ GE410.out | refine below_set ?_ GE417.out) | exact HB.out)) hb); clear HO_404001; clear BK397; clear BK403; clear BK410; clear BK417; clear HB; have HO_404001 := n0_; have BK397 := n1_; have BK403 := n2_; have BK410 := n3_; have BK417 := n4_; have HB := n5_; clear n0_ n1_ n2_ n3_ n4_ n5_; (try clear hb); (try clear hb2); (try clear hk); (try clear hi); have hcz57_0 : w56.cell? ⟨gb403, 0, none⟩ = some (.int .i64 t399) := (blk_cell BK403.out 0).trans rfl; have hcz57_1 : w56.cell? ⟨gb403, 1, none⟩ = some (.slice Ao20 t400.length co20) := (blk_cell BK403.out 1).trans rfl; have hfz57_0 := blk_frozen BK403.out 0; have hfz57_1 := blk_frozen BK403.out 1) | ((with_reducible refine gate_callee (f := 44) rfl ?_); refine goesL_ (some 71) rfl rfl Try.func44 (by kernel_rfl) rfl #[.agg #[.int .i64 t399, .slice Ao20 t400.length co20], .int .i64 a1] rfl (by (try simp only [List.map_toArray, List.map_cons, List.map_nil]); first | done | rfl | (simp only [List.length_drop, List.length_take]; rfl)) ?_; (with_reducible refine (table_Of.calls t399 _ _ t400 a1 t424 t427 _ ?side1 ?side2 A45.out).mono ?_); (case side1 => repeat (first | exact (Kd.R_reads' HO_404001.out).2.2 | (with_reducible refine Kd.C_alloc ?_ _) | (with_reducible refine Kd.C_drewN ?_ _) | (with_reducible refine Kd.C_drew ?_))); (case side2 => exact (Kd.R_reads' HO_404001.out).2.1); rintro e w58 ⟨v425, rfl, ho0, hb⟩; refine ⟨_, rfl, ?_⟩; have n0_ := Aside0.mk (Kd.R_elder' (by (with_reducible repeat (first | apply Kd.R_alloc | apply Kd.R_drewN | apply Kd.R_drew)); exact HO_404001.out) (Kd.R_base ho0) hb); have n1_ := Aside0.mk (Kd.R_lower (Kd.R_newB (Kd.R_newB (Kd.R_new' ho0 (Kd.R_lt (by (with_reducible repeat (first | apply Kd.R_alloc | apply Kd.R_drewN | apply Kd.R_drew)); exact HO_404001.out))) (g := gb410) (o := .cells #[.int .i64 t404, .int .i64 t405, .int .i64 t406, .int .i64 t407] 29 (0, 0)) (by (with_reducible repeat (first | refine blk_drewN ?_ _ | refine blk_drew ?_ | refine blk_alloc ?_ _)); exact BK410.out)) (g := gb417) (o := .cells #[.int .i64 t411, .int .i64 t412, .int .i64 t413, .int .i64 t414] 29 (0, 0)) (by (with_reducible repeat (first | refine blk_drewN ?_ _ | refine blk_drew ?_ | refine blk_alloc ?_ _)); exact BK417.out)) (below_size (by repeat (first | (with_reducible first | exact HB.out | apply below_alloc | apply pw_below_drewN | apply below_drew1 | refine below_set ?_ GE397.out | refine below_set ?_ GE403.out | refine below_set ?_ GE410.out | refine below_set ?_ GE417.out) | exact HB.out)))); have n2_ := Aside0.mk (blk_below (g := gb397) (o := .cells #[.int .i64 a0_0, .slice A0_1 l0_1.length c0_1] 25 (0, 0)) (by (with_reducible repeat (first | refine blk_drewN ?_ _ | refine blk_drew ?_ | refine blk_alloc ?_ _)); exact BK397.out) hb); have n3_ := Aside0.mk (blk_below (g := gb403) (o := .cells #[.int .i64 t399, .slice Ao20 t400.length co20] 25 (0, 0)) (by (with_reducible repeat (first | refine blk_drewN ?_ _ | refine blk_drew ?_ | refine blk_alloc ?_ _)); exact BK403.out) hb); have n4_ := Aside0.mk (blk_below (g := gb410) (o := .cells #[.int .i64 t404, .int .i64 t405, .int .i64 t406, .int .i64 t407] 29 (0, 0)) (by (with_reducible repeat (first | refine blk_drewN ?_ _ | refine blk_drew ?_ | refine blk_alloc ?_ _)); exact BK410.out) hb); have n5_ := Aside0.mk (blk_below (g := gb417) (o := .cells #[.int .i64 t411, .int .i64 t412, .int .i64 t413, .int .i64 t414] 29 (0, 0)) (by (with_reducible repeat (first | refine blk_drewN ?_ _ | refine blk_drew ?_ | refine blk_alloc ?_ _)); exact BK417.out) hb); have n6_ := Aside0.mk (below_step (by repeat (first | (with_reducible first | exact HB.out | apply below_alloc | apply pw_below_drewN | apply below_drew1 | refine below_set ?_ GE397.out | refine below_set ?_ GE403.out | refine below_set ?_ GE410.out | refine below_set ?_ GE417.out) | exact HB.out)) hb); clear HO_404001; clear BK397; clear BK403; clear BK410; clear BK417; clear HB; have HO_404001 := n0_; have HO426 := n1_; have BK397 := n2_; have BK403 := n3_; have BK410 := n4_; have BK417 := n5_; have HB := n6_; clear n0_ n1_ n2_ n3_ n4_ n5_ n6_; (try clear hb); (try clear hb2); (try clear hk); (try clear hi); (try clear ho0); have hcz59_0 : w58.cell? ⟨gb397, 0, none⟩ = some (.int .i64 a0_0) := (blk_cell BK397.out 0).trans rfl; have hcz59_1 : w58.cell? ⟨gb397, 1, none⟩ = some (.slice A0_1 l0_1.length c0_1) := (blk_cell BK397.out 1).trans rfl; have hfz59_0 := blk_frozen BK397.out 0; have hfz59_1 := blk_frozen BK397.out 1) | ((with_reducible refine gate_callee (f := 45) rfl ?_); refine goesL_ (some 77) rfl rfl Try.func45 (by kernel_rfl) rfl #[.agg #[.int .i64 a0_0, .slice A0_1 l0_1.length c0_1], .int .i64 a1] rfl (by (try simp only [List.map_toArray, List.map_cons, List.map_nil]); first | done | rfl | (simp only [List.length_drop, List.length_take]; rfl)) ?_; (with_reducible refine (R21_Of.calls kj12 a0_0 _ _ l0_1 a1 t428 t431 _ ?side1 ?side2 A46.out).mono ?_); (case side1 => repeat (first | exact (Kd.C_below HR0_1.out HB.out) | (with_reducible refine Kd.C_alloc ?_ _) | (with_reducible refine Kd.C_drewN ?_ _) | (with_reducible refine Kd.C_drew ?_))); (case side2 => exact HC0_1.out); rintro e w60 ⟨v429, rfl, ho0, hb⟩; refine ⟨_, rfl, ?_⟩; have n0_ := Aside0.mk (Kd.R_elder' (by (with_reducible repeat (first | apply Kd.R_alloc | apply Kd.R_drewN | apply Kd.R_drew)); exact HO_404001.out) (Kd.R_base ho0) hb); have n1_ := Aside0.mk (Kd.R_elder' (by (with_reducible repeat (first | apply Kd.R_alloc | apply Kd.R_drewN | apply Kd.R_drew)); exact HO426.out) (Kd.R_base ho0) hb); have n2_ := Aside0.mk (Kd.R_lower (Kd.R_newB (Kd.R_newB (Kd.R_new' (Kd.R_new' ho0 (Kd.R_lt (by (with_reducible repeat (first | apply Kd.R_alloc | apply Kd.R_drewN | apply Kd.R_drew)); exact HO_404001.out))) (Kd.R_lt (by (with_reducible repeat (first | apply Kd.R_alloc | apply Kd.R_drewN | apply Kd.R_drew)); exact HO426.out))) (g := gb410) (o := .cells #[.int .i64 t404, .int .i64 t405, .int .i64 t406, .int .i64 t407] 29 (0, 0)) (by (with_reducible repeat (first | refine blk_drewN ?_ _ | refine blk_drew ?_ | refine blk_alloc ?_ _)); exact BK410.out)) (g := gb417) (o := .cells #[.int .i64 t411, .int .i64 t412, .int .i64 t413, .int .i64 t414] 29 (0, 0)) (by (with_reducible repeat (first | refine blk_drewN ?_ _ | refine blk_drew ?_ | refine blk_alloc ?_ _)); exact BK417.out)) (below_size (by repeat (first | (with_reducible first | exact HB.out | apply below_alloc | apply pw_below_drewN | apply below_drew1 | refine below_set ?_ GE397.out | refine below_set ?_ GE403.out | refine below_set ?_ GE410.out | refine below_set ?_ GE417.out) | exact HB.out)))); have n3_ := Aside0.mk (blk_below (g := gb397) (o := .cells #[.int .i64 a0_0, .slice A0_1 l0_1.length c0_1] 25 (0, 0)) (by (with_reducible repeat (first | refine blk_drewN ?_ _ | refine blk_drew ?_ | refine blk_alloc ?_ _)); exact BK397.out) hb); have n4_ := Aside0.mk (blk_below (g := gb403) (o := .cells #[.int .i64 t399, .slice Ao20 t400.length co20] 25 (0, 0)) (by (with_reducible repeat (first | refine blk_drewN ?_ _ | refine blk_drew ?_ | refine blk_alloc ?_ _)); exact BK403.out) hb); have n5_ := Aside0.mk (blk_below (g := gb410) (o := .cells #[.int .i64 t404, .int .i64 t405, .int .i64 t406, .int .i64 t407] 29 (0, 0)) (by (with_reducible repeat (first | refine blk_drewN ?_ _ | refine blk_drew ?_ | refine blk_alloc ?_ _)); exact BK410.out) hb); have n6_ := Aside0.mk (blk_below (g := gb417) (o := .cells #[.int .i64 t411, .int .i64 t412, .int .i64 t413, .int .i64 t414] 29 (0, 0)) (by (with_reducible repeat (first | refine blk_drewN ?_ _ | refine blk_drew ?_ | refine blk_alloc ?_ _)); exact BK417.out) hb); have n7_ := Aside0.mk (below_step (by repeat (first | (with_reducible first | exact HB.out | apply below_alloc | apply pw_below_drewN | apply below_drew1 | refine below_set ?_ GE397.out | refine below_set ?_ GE403.out | refine below_set ?_ GE410.out | refine below_set ?_ GE417.out) | exact HB.out)) hb); clear HO_404001; clear HO426; clear BK397; clear BK403; clear BK410; clear BK417; clear HB; have HO_404001 := n0_; have HO426 := n1_; have HO430 := n2_; have BK397 := n3_; have BK403 := n4_; have BK410 := n5_; have BK417 := n6_; have HB := n7_; clear n0_ n1_ n2_ n3_ n4_ n5_ n6_ n7_; (try clear hb); (try clear hb2); (try clear hk); (try clear hi); (try clear ho0)))
          (try simp only [Act.put, List.setIfInBounds_toArray, List.set_cons_zero, List.set_cons_succ])
          go_cut [103] (fun v103 wc => ∃ (kq : Nat) (x103_46 : Bool), v103 = .bool x103_46 ∧ Aside0 (L21_TableLooks.j1 kq a2 a3 x103_46 a0_0 l0_1 t399 t400 = some true) ∧ Aside0 (kq ≤ kj12) ∧ Aside0 (Kd.R k29 29 wc w.heap.size (fun k_ => k_ ≠ gb410 ∧ k_ ≠ gb417) (.slice Ao20 t400.length co20) t400) ∧ Aside0 (wc.heap[gb397]? = some (.cells #[.int .i64 a0_0, (.slice A0_1 l0_1.length c0_1)] 25 (0, 0))) ∧ Aside0 (wc.heap[gb403]? = some (.cells #[.int .i64 t399, (.slice Ao20 t400.length co20)] 25 (0, 0))) ∧ Aside0 (wc.heap[gb410]? = some (.cells #[.int .i64 t404, .int .i64 t405, .int .i64 t406, .int .i64 t407] 29 (0, 0))) ∧ Aside0 (wc.heap[gb417]? = some (.cells #[.int .i64 t411, .int .i64 t412, .int .i64 t413, .int .i64 t414] 29 (0, 0))) ∧ Aside0 (Below w.heap.size w wc))
          case first =>
            have H := HC47.out
            clear HC47
            by_cases c61 : t418 = t421
            · rw [if_pos c61] at H
              have c61b0 : (t418 == t421) = true := beq_iff_eq.mpr c61
              have c61b1 : (t418 != t421) = false := bne_eq_false_iff_eq.mpr c61
              clear c61
              (first | rw [c61b0] | (simp only [i64_w, i32_w]; rw [c61b0]) | skip)
              by_cases c62 : t419 = t422
              · rw [if_pos c62] at H
                have c62b0 : (t419 == t422) = true := beq_iff_eq.mpr c62
                have c62b1 : (t419 != t422) = false := bne_eq_false_iff_eq.mpr c62
                clear c62
                by_cases c63 : t420 = t423
                · rw [if_pos c63] at H
                  have c63b0 : (t420 == t423) = true := beq_iff_eq.mpr c63
                  have c63b1 : (t420 != t423) = false := bne_eq_false_iff_eq.mpr c63
                  clear c63
                  replace H := Option.bind_eq_some_iff.mp H
                  obtain ⟨t432, A640, H⟩ := H
                  replace H : (if t432 = true then (L21_TableLooks.j1 kj12 a2 a3 (t427 != t431) a0_0 l0_1 t399 t400) else (L21_TableLooks.j1 kj12 a2 a3 true a0_0 l0_1 t399 t400)) = some true := H
                  have A64 := Aside0.mk A640
                  clear A640
                  by_cases c65 : t432 = true
                  · subst c65
                    have H1 : (L21_TableLooks.j1 kj12 a2 a3 (t427 != t431) a0_0 l0_1 t399 t400) = some true := by rw [if_pos rfl] at H; exact H
                    clear H
                    have H := H1
                    clear H1
                    have H' := Aside0.mk H
                    clear H
                    obtain ⟨Ao66, co66, eo66⟩ := Kd.R_slice HO426.out
                    subst eo66
                    obtain ⟨Ao67, co67, eo67⟩ := Kd.R_slice HO430.out
                    subst eo67
                    go_wp2_with (first | ((with_reducible refine gate_callee (f := 33) rfl ?_); (with_reducible refine gate_dst (N := 96) rfl ?_); refine gate_guard (by rfl) ?_; dsimp only; refine goesL_ (some 96) rfl rfl Try.func33 (by kernel_rfl) rfl #[.slice Ao66 t424.length co66, .slice Ao67 t428.length co67] rfl (by (try simp only [List.map_toArray, List.map_cons, List.map_nil]); first | done | rfl | (simp only [List.length_drop, List.length_take]; rfl)) ?_; (with_reducible refine (K_SameCallsIn.calls kj12 _ _ t424 _ _ t428 true _ ?side1 ?side2 ?side3 ?side4 A64.out).mono ?_); (case side1 => repeat (first | exact (Kd.R_reads' HO426.out).2.2 | (with_reducible refine Kd.C_alloc ?_ _) | (with_reducible refine Kd.C_drewN ?_ _) | (with_reducible refine Kd.C_drew ?_))); (case side2 => exact (Kd.R_reads' HO426.out).2.1); (case side3 => repeat (first | exact (Kd.R_reads' HO430.out).2.2 | (with_reducible refine Kd.C_alloc ?_ _) | (with_reducible refine Kd.C_drewN ?_ _) | (with_reducible refine Kd.C_drew ?_))); (case side4 => exact (Kd.R_reads' HO430.out).2.1); rintro e w' ⟨rfl, ⟨nd, rfl⟩⟩; refine ⟨_, rfl, ?_⟩))
                    go_meet
                    case rel => exact ⟨_, ((t427 != t431)), (by first | rfl | (simp; done) | (simp [*]; done)), H', ⟨by have := HJ12.out; first | omega | exact Nat.le_refl _⟩, ⟨by (with_reducible repeat (first | apply Kd.R_alloc | apply Kd.R_drewN | apply Kd.R_drew)); exact Kd.R_mono HO_404001.out (fun _ hk => ⟨hk.1.1.1, hk.1.1.2⟩)⟩, ⟨by (with_reducible repeat (first | refine blk_drewN ?_ _ | refine blk_drew ?_ | refine blk_alloc ?_ _)); exact BK397.out⟩, ⟨by (with_reducible repeat (first | refine blk_drewN ?_ _ | refine blk_drew ?_ | refine blk_alloc ?_ _)); exact BK403.out⟩, ⟨by (with_reducible repeat (first | refine blk_drewN ?_ _ | refine blk_drew ?_ | refine blk_alloc ?_ _)); exact BK410.out⟩, ⟨by (with_reducible repeat (first | refine blk_drewN ?_ _ | refine blk_drew ?_ | refine blk_alloc ?_ _)); exact BK417.out⟩, ⟨by repeat (first | (with_reducible first | exact HB.out | apply below_alloc | apply pw_below_drewN | apply below_drew1 | refine below_set ?_ GE397.out | refine below_set ?_ GE403.out | refine below_set ?_ GE410.out | refine below_set ?_ GE417.out) | exact HB.out)⟩⟩
                  · replace c65 := Bool.eq_false_iff.mpr c65
                    subst c65
                    have H1 : (L21_TableLooks.j1 kj12 a2 a3 true a0_0 l0_1 t399 t400) = some true := by rw [if_neg (show ¬ (false = true) by decide)] at H; exact H
                    clear H
                    have H := H1
                    clear H1
                    exact absurd H (by repeat (first | exact never_none | exact never_false | refine never_ite ?_ ?_ | refine never_bind (fun _ => ?_) | exact L21_TableLooks.j0_d55true _ _ _ _ _ _ _ _ | exact L21_TableLooks.j1_d103true _ _ _ _ _ _ _))
                · rw [if_neg c63] at H
                  have c63b0 : (t420 == t423) = false := beq_eq_false_iff_ne.mpr c63
                  have c63b1 : (t420 != t423) = true := bne_iff_ne.mpr c63
                  exact absurd H (by repeat (first | exact never_none | exact never_false | refine never_ite ?_ ?_ | refine never_bind (fun _ => ?_) | exact L21_TableLooks.j0_d55true _ _ _ _ _ _ _ _ | exact L21_TableLooks.j1_d103true _ _ _ _ _ _ _))
              · rw [if_neg c62] at H
                have c62b0 : (t419 == t422) = false := beq_eq_false_iff_ne.mpr c62
                have c62b1 : (t419 != t422) = true := bne_iff_ne.mpr c62
                exact absurd H (by repeat (first | exact never_none | exact never_false | refine never_ite ?_ ?_ | refine never_bind (fun _ => ?_) | exact L21_TableLooks.j0_d55true _ _ _ _ _ _ _ _ | exact L21_TableLooks.j1_d103true _ _ _ _ _ _ _))
            · rw [if_neg c61] at H
              have c61b0 : (t418 == t421) = false := beq_eq_false_iff_ne.mpr c61
              have c61b1 : (t418 != t421) = true := bne_iff_ne.mpr c61
              (first | rw [c61b0] | (simp only [i64_w, i32_w]; rw [c61b0]) | skip)
              exact absurd H (by repeat (first | exact never_none | exact never_false | refine never_ite ?_ ?_ | refine never_bind (fun _ => ?_) | exact L21_TableLooks.j0_d55true _ _ _ _ _ _ _ _ | exact L21_TableLooks.j1_d103true _ _ _ _ _ _ _))
          case rest =>
            clear HC47
            try clear c1
            try clear c2
            try clear p2
            try clear c3
            try clear c4
            try clear c5
            try clear c5b0
            try clear c5b1
            try clear c6
            try clear c18
            try clear c23
            try clear c24
            try clear c29
            try clear c30
            try clear c31
            try clear c33
            try clear c33b0
            try clear c34
            try clear c34b0
            try clear c34b1
            try clear c34b2
            try clear c35
            try clear c36
            try clear c37
            try clear c39
            try clear c40
            try clear c41
            try clear c42
            try clear c43
            try clear c44
            try clear c45
            try clear c48
            try clear c49
            try clear c50
            try clear c53
            try clear c54
            try clear c61
            try clear c61b0
            try clear c61b1
            try clear c62
            try clear c62b0
            try clear c62b1
            try clear c63
            try clear c63b0
            try clear c63b1
            try clear c65
            try clear hcz15_0
            try clear hcz15_1
            try clear hcz19_0
            try clear hcz19_1
            try clear hcz25_0
            try clear hcz25_1
            try clear hcz25_2
            try clear hcz25_3
            try clear hcz26_0
            try clear hcz26_1
            try clear hcz32_0
            try clear hcz32_1
            try clear hcz32_2
            try clear hcz32_3
            try clear hcz38_0
            try clear hcz38_1
            try clear hcz38_2
            try clear hcz38_3
            try clear hcz41_0
            try clear hcz41_1
            try clear hcz41_2
            try clear hcz41_3
            try clear hcz51_0
            try clear hcz51_1
            try clear hcz55_0
            try clear hcz55_1
            try clear hcz57_0
            try clear hcz57_1
            try clear hcz59_0
            try clear hcz59_1
            try clear hcz8_0
            try clear hcz8_1
            try clear hfz15_0
            try clear hfz15_1
            try clear hfz19_0
            try clear hfz19_1
            try clear hfz25_0
            try clear hfz25_1
            try clear hfz25_2
            try clear hfz25_3
            try clear hfz26_0
            try clear hfz26_1
            try clear hfz32_0
            try clear hfz32_1
            try clear hfz32_2
            try clear hfz32_3
            try clear hfz38_0
            try clear hfz38_1
            try clear hfz38_2
            try clear hfz38_3
            try clear hfz41_0
            try clear hfz41_1
            try clear hfz41_2
            try clear hfz41_3
            try clear hfz51_0
            try clear hfz51_1
            try clear hfz55_0
            try clear hfz55_1
            try clear hfz57_0
            try clear hfz57_1
            try clear hfz59_0
            try clear hfz59_1
            try clear hfz8_0
            try clear hfz8_1
            try clear p2
            obtain ⟨kq, x103_46, rfl, HA, HJ46, HO_404001, BK397, BK403, BK410, BK417, HB⟩ := hcut
            cases kq with
            | zero => exact absurd HA.out (by simp [L21_TableLooks.j1])
            | succ kj46 =>
              have H := HA.out
              clear HA
              simp only [L21_TableLooks.j1] at H
              by_cases c68 : x103_46 = true
              · subst c68
                have H1 : (some false) = some true := by rw [if_pos rfl] at H; exact H
                clear H
                have H := H1
                clear H1
                exact absurd H (by repeat (first | exact never_none | exact never_false | refine never_ite ?_ ?_ | refine never_bind (fun _ => ?_) | exact L21_TableLooks.j0_d55true _ _ _ _ _ _ _ _ | exact L21_TableLooks.j1_d103true _ _ _ _ _ _ _))
              · replace c68 := Bool.eq_false_iff.mpr c68
                subst c68
                have H1 : ((table_Urgent.f t399 t400 a2 a3).bind fun bt433 => ((R21_Urgent.f kj46 a0_0 l0_1 a2 a3).bind fun bt437 => ((K_SameCallsIn.f kj46 bt433.1 bt437.1).bind fun t441 => (if t441 = true then (if bt433.2 = bt437.2 then ((K_SameTable.f kj46 t399 t400 a0_0 l0_1).bind fun t442 => (if t442 = true then ((L21_awake.f kj46).bind fun t443 => (some t443)) else (some false))) else (some false)) else (some false))))) = some true := by rw [if_neg (show ¬ (false = true) by decide)] at H; exact H
                clear H
                have H := H1
                clear H1
                replace H := Option.bind_eq_some_iff.mp H
                obtain ⟨⟨t433, t436⟩, A690, H⟩ := H
                replace H : ((R21_Urgent.f kj46 a0_0 l0_1 a2 a3).bind fun bt437 => ((K_SameCallsIn.f kj46 t433 bt437.1).bind fun t441 => (if t441 = true then (if t436 = bt437.2 then ((K_SameTable.f kj46 t399 t400 a0_0 l0_1).bind fun t442 => (if t442 = true then ((L21_awake.f kj46).bind fun t443 => (some t443)) else (some false))) else (some false)) else (some false)))) = some true := H
                have A69 := Aside0.mk A690
                clear A690
                replace H := Option.bind_eq_some_iff.mp H
                obtain ⟨⟨t437, t440⟩, A700, H⟩ := H
                replace H : ((K_SameCallsIn.f kj46 t433 t437).bind fun t441 => (if t441 = true then (if t436 = t440 then ((K_SameTable.f kj46 t399 t400 a0_0 l0_1).bind fun t442 => (if t442 = true then ((L21_awake.f kj46).bind fun t443 => (some t443)) else (some false))) else (some false)) else (some false))) = some true := H
                have A70 := Aside0.mk A700
                clear A700
                replace H := Option.bind_eq_some_iff.mp H
                obtain ⟨t441, A710, H⟩ := H
                replace H : (if t441 = true then (if t436 = t440 then ((K_SameTable.f kj46 t399 t400 a0_0 l0_1).bind fun t442 => (if t442 = true then ((L21_awake.f kj46).bind fun t443 => (some t443)) else (some false))) else (some false)) else (some false)) = some true := H
                have A71 := Aside0.mk A710
                clear A710
                by_cases c72 : t441 = true
                · subst c72
                  have H1 : (if t436 = t440 then ((K_SameTable.f kj46 t399 t400 a0_0 l0_1).bind fun t442 => (if t442 = true then ((L21_awake.f kj46).bind fun t443 => (some t443)) else (some false))) else (some false)) = some true := by rw [if_pos rfl] at H; exact H
                  clear H
                  have H := H1
                  clear H1
                  by_cases c73 : t436 = t440
                  · rw [if_pos c73] at H
                    have c73b0 : (t436 == t440) = true := beq_iff_eq.mpr c73
                    have c73b1 : (t436 != t440) = false := bne_eq_false_iff_eq.mpr c73
                    clear c73
                    replace H := Option.bind_eq_some_iff.mp H
                    obtain ⟨t442, A740, H⟩ := H
                    replace H : (if t442 = true then ((L21_awake.f kj46).bind fun t443 => (some t443)) else (some false)) = some true := H
                    have A74 := Aside0.mk A740
                    clear A740
                    by_cases c75 : t442 = true
                    · subst c75
                      have H1 : ((L21_awake.f kj46).bind fun t443 => (some t443)) = some true := by rw [if_pos rfl] at H; exact H
                      clear H
                      have H := H1
                      clear H1
                      replace H := Option.bind_eq_some_iff.mp H
                      obtain ⟨t443, A760, H⟩ := H
                      replace H : (some t443) = some true := H
                      have A76 := Aside0.mk A760
                      clear A760
                      have Ht_ := Option.some.inj H
                      clear H
                      subst Ht_
                      have H : (some true : Option Bool) = some true := rfl
                      clear H
                      have hnb77 := NB403_397.out
                      have hnc77 := NB397_403.out
                      have hnb78 := NB403_410.out
                      have hnc78 := NB410_403.out
                      have hnb79 := NB403_417.out
                      have hnc79 := NB417_403.out
                      have hcz80_0 : wc.cell? ⟨gb403, 0, none⟩ = some (.int .i64 t399) := (blk_cell BK403.out 0).trans rfl
                      have hcz80_1 : wc.cell? ⟨gb403, 1, none⟩ = some (.slice Ao20 t400.length co20) := (blk_cell BK403.out 1).trans rfl
                      have hfz80_0 := blk_frozen BK403.out 0
                      have hfz80_1 := blk_frozen BK403.out 1
                      go_wp2_with (first | ((with_reducible refine gate_callee (f := 32) rfl ?_); refine goesL_ (some 108) rfl rfl Try.func32 (by kernel_rfl) rfl #[.agg #[.int .i64 t399, .slice Ao20 t400.length co20], .int .i64 a2, .int .i64 a3] rfl (by (try simp only [List.map_toArray, List.map_cons, List.map_nil]); first | done | rfl | (simp only [List.length_drop, List.length_take]; rfl)) ?_; (with_reducible refine (table_Urgent.calls t399 _ _ t400 a2 a3 t433 t436 _ ?side1 ?side2 A69.out).mono ?_); (case side1 => repeat (first | exact (Kd.R_reads' HO_404001.out).2.2 | (with_reducible refine Kd.C_alloc ?_ _) | (with_reducible refine Kd.C_drewN ?_ _) | (with_reducible refine Kd.C_drew ?_))); (case side2 => exact (Kd.R_reads' HO_404001.out).2.1); rintro e w81 ⟨v434, rfl, ho0, hb⟩; refine ⟨_, rfl, ?_⟩; have n0_ := Aside0.mk (Kd.R_elder' (by (with_reducible repeat (first | apply Kd.R_alloc | apply Kd.R_drewN | apply Kd.R_drew)); exact HO_404001.out) (Kd.R_base ho0) hb); have n1_ := Aside0.mk (Kd.R_lower (Kd.R_newB (Kd.R_newB (Kd.R_new' ho0 (Kd.R_lt (by (with_reducible repeat (first | apply Kd.R_alloc | apply Kd.R_drewN | apply Kd.R_drew)); exact HO_404001.out))) (g := gb410) (o := .cells #[.int .i64 t404, .int .i64 t405, .int .i64 t406, .int .i64 t407] 29 (0, 0)) (by (with_reducible repeat (first | refine blk_drewN ?_ _ | refine blk_drew ?_ | refine blk_alloc ?_ _)); exact BK410.out)) (g := gb417) (o := .cells #[.int .i64 t411, .int .i64 t412, .int .i64 t413, .int .i64 t414] 29 (0, 0)) (by (with_reducible repeat (first | refine blk_drewN ?_ _ | refine blk_drew ?_ | refine blk_alloc ?_ _)); exact BK417.out)) (below_size (by repeat (first | (with_reducible first | exact HB.out | apply below_alloc | apply pw_below_drewN | apply below_drew1 | refine below_set ?_ GE397.out | refine below_set ?_ GE403.out | refine below_set ?_ GE410.out | refine below_set ?_ GE417.out) | exact HB.out)))); have n2_ := Aside0.mk (blk_below (g := gb397) (o := .cells #[.int .i64 a0_0, .slice A0_1 l0_1.length c0_1] 25 (0, 0)) (by (with_reducible repeat (first | refine blk_drewN ?_ _ | refine blk_drew ?_ | refine blk_alloc ?_ _)); exact BK397.out) hb); have n3_ := Aside0.mk (blk_below (g := gb403) (o := .cells #[.int .i64 t399, .slice Ao20 t400.length co20] 25 (0, 0)) (by (with_reducible repeat (first | refine blk_drewN ?_ _ | refine blk_drew ?_ | refine blk_alloc ?_ _)); exact BK403.out) hb); have n4_ := Aside0.mk (blk_below (g := gb410) (o := .cells #[.int .i64 t404, .int .i64 t405, .int .i64 t406, .int .i64 t407] 29 (0, 0)) (by (with_reducible repeat (first | refine blk_drewN ?_ _ | refine blk_drew ?_ | refine blk_alloc ?_ _)); exact BK410.out) hb); have n5_ := Aside0.mk (blk_below (g := gb417) (o := .cells #[.int .i64 t411, .int .i64 t412, .int .i64 t413, .int .i64 t414] 29 (0, 0)) (by (with_reducible repeat (first | refine blk_drewN ?_ _ | refine blk_drew ?_ | refine blk_alloc ?_ _)); exact BK417.out) hb); have n6_ := Aside0.mk (below_step (by repeat (first | (with_reducible first | exact HB.out | apply below_alloc | apply pw_below_drewN | apply below_drew1 | refine below_set ?_ GE397.out | refine below_set ?_ GE403.out | refine below_set ?_ GE410.out | refine below_set ?_ GE417.out) | exact HB.out)) hb); clear HO_404001; clear BK397; clear BK403; clear BK410; clear BK417; clear HB; have HO_404001 := n0_; have HO435 := n1_; have BK397 := n2_; have BK403 := n3_; have BK410 := n4_; have BK417 := n5_; have HB := n6_; clear n0_ n1_ n2_ n3_ n4_ n5_ n6_; (try clear hb); (try clear hb2); (try clear hk); (try clear hi); (try clear ho0); have hnb82 := NB397_410.out; have hnc82 := NB410_397.out; have hnb83 := NB397_417.out; have hnc83 := NB417_397.out; have hcz84_0 : w81.cell? ⟨gb397, 0, none⟩ = some (.int .i64 a0_0) := (blk_cell BK397.out 0).trans rfl; have hcz84_1 : w81.cell? ⟨gb397, 1, none⟩ = some (.slice A0_1 l0_1.length c0_1) := (blk_cell BK397.out 1).trans rfl; have hfz84_0 := blk_frozen BK397.out 0; have hfz84_1 := blk_frozen BK397.out 1) | ((with_reducible refine gate_callee (f := 46) rfl ?_); refine goesL_ (some 115) rfl rfl Try.func46 (by kernel_rfl) rfl #[.agg #[.int .i64 a0_0, .slice A0_1 l0_1.length c0_1], .int .i64 a2, .int .i64 a3] rfl (by (try simp only [List.map_toArray, List.map_cons, List.map_nil]); first | done | rfl | (simp only [List.length_drop, List.length_take]; rfl)) ?_; (with_reducible refine (R21_Urgent.calls kj46 a0_0 _ _ l0_1 a2 a3 t437 t440 _ ?side1 ?side2 A70.out).mono ?_); (case side1 => repeat (first | exact (Kd.C_below HR0_1.out HB.out) | (with_reducible refine Kd.C_alloc ?_ _) | (with_reducible refine Kd.C_drewN ?_ _) | (with_reducible refine Kd.C_drew ?_))); (case side2 => exact HC0_1.out); rintro e w85 ⟨v438, rfl, ho0, hb⟩; refine ⟨_, rfl, ?_⟩; have n0_ := Aside0.mk (Kd.R_elder' (by (with_reducible repeat (first | apply Kd.R_alloc | apply Kd.R_drewN | apply Kd.R_drew)); exact HO_404001.out) (Kd.R_base ho0) hb); have n1_ := Aside0.mk (Kd.R_elder' (by (with_reducible repeat (first | apply Kd.R_alloc | apply Kd.R_drewN | apply Kd.R_drew)); exact HO435.out) (Kd.R_base ho0) hb); have n2_ := Aside0.mk (Kd.R_lower (Kd.R_newB (Kd.R_newB (Kd.R_new' (Kd.R_new' ho0 (Kd.R_lt (by (with_reducible repeat (first | apply Kd.R_alloc | apply Kd.R_drewN | apply Kd.R_drew)); exact HO_404001.out))) (Kd.R_lt (by (with_reducible repeat (first | apply Kd.R_alloc | apply Kd.R_drewN | apply Kd.R_drew)); exact HO435.out))) (g := gb410) (o := .cells #[.int .i64 t404, .int .i64 t405, .int .i64 t406, .int .i64 t407] 29 (0, 0)) (by (with_reducible repeat (first | refine blk_drewN ?_ _ | refine blk_drew ?_ | refine blk_alloc ?_ _)); exact BK410.out)) (g := gb417) (o := .cells #[.int .i64 t411, .int .i64 t412, .int .i64 t413, .int .i64 t414] 29 (0, 0)) (by (with_reducible repeat (first | refine blk_drewN ?_ _ | refine blk_drew ?_ | refine blk_alloc ?_ _)); exact BK417.out)) (below_size (by repeat (first | (with_reducible first | exact HB.out | apply below_alloc | apply pw_below_drewN | apply below_drew1 | refine below_set ?_ GE397.out | refine below_set ?_ GE403.out | refine below_set ?_ GE410.out | refine below_set ?_ GE417.out) | exact HB.out)))); have n3_ := Aside0.mk (blk_below (g := gb397) (o := .cells #[.int .i64 a0_0, .slice A0_1 l0_1.length c0_1] 25 (0, 0)) (by (with_reducible repeat (first | refine blk_drewN ?_ _ | refine blk_drew ?_ | refine blk_alloc ?_ _)); exact BK397.out) hb); have n4_ := Aside0.mk (blk_below (g := gb403) (o := .cells #[.int .i64 t399, .slice Ao20 t400.length co20] 25 (0, 0)) (by (with_reducible repeat (first | refine blk_drewN ?_ _ | refine blk_drew ?_ | refine blk_alloc ?_ _)); exact BK403.out) hb); have n5_ := Aside0.mk (blk_below (g := gb410) (o := .cells #[.int .i64 t404, .int .i64 t405, .int .i64 t406, .int .i64 t407] 29 (0, 0)) (by (with_reducible repeat (first | refine blk_drewN ?_ _ | refine blk_drew ?_ | refine blk_alloc ?_ _)); exact BK410.out) hb); have n6_ := Aside0.mk (blk_below (g := gb417) (o := .cells #[.int .i64 t411, .int .i64 t412, .int .i64 t413, .int .i64 t414] 29 (0, 0)) (by (with_reducible repeat (first | refine blk_drewN ?_ _ | refine blk_drew ?_ | refine blk_alloc ?_ _)); exact BK417.out) hb); have n7_ := Aside0.mk (below_step (by repeat (first | (with_reducible first | exact HB.out | apply below_alloc | apply pw_below_drewN | apply below_drew1 | refine below_set ?_ GE397.out | refine below_set ?_ GE403.out | refine below_set ?_ GE410.out | refine below_set ?_ GE417.out) | exact HB.out)) hb); clear HO_404001; clear HO435; clear BK397; clear BK403; clear BK410; clear BK417; clear HB; have HO_404001 := n0_; have HO435 := n1_; have HO439 := n2_; have BK397 := n3_; have BK403 := n4_; have BK410 := n5_; have BK417 := n6_; have HB := n7_; clear n0_ n1_ n2_ n3_ n4_ n5_ n6_ n7_; (try clear hb); (try clear hb2); (try clear hk); (try clear hi); (try clear ho0); obtain ⟨Ao86, co86, eo86⟩ := Kd.R_slice HO435.out; subst eo86; obtain ⟨Ao87, co87, eo87⟩ := Kd.R_slice HO439.out; subst eo87) | ((with_reducible refine gate_callee (f := 33) rfl ?_); refine goesL_ (some 120) rfl rfl Try.func33 (by kernel_rfl) rfl #[.slice Ao86 t433.length co86, .slice Ao87 t437.length co87] rfl (by (try simp only [List.map_toArray, List.map_cons, List.map_nil]); first | done | rfl | (simp only [List.length_drop, List.length_take]; rfl)) ?_; (with_reducible refine (K_SameCallsIn.calls kj46 _ _ t433 _ _ t437 true _ ?side1 ?side2 ?side3 ?side4 A71.out).mono ?_); (case side1 => repeat (first | exact (Kd.R_reads' HO435.out).2.2 | (with_reducible refine Kd.C_alloc ?_ _) | (with_reducible refine Kd.C_drewN ?_ _) | (with_reducible refine Kd.C_drew ?_))); (case side2 => exact (Kd.R_reads' HO435.out).2.1); (case side3 => repeat (first | exact (Kd.R_reads' HO439.out).2.2 | (with_reducible refine Kd.C_alloc ?_ _) | (with_reducible refine Kd.C_drewN ?_ _) | (with_reducible refine Kd.C_drew ?_))); (case side4 => exact (Kd.R_reads' HO439.out).2.1); rintro e w' ⟨rfl, ⟨nd, rfl⟩⟩; refine ⟨_, rfl, ?_⟩; have hcz88_0 : w85.cell? ⟨gb403, 0, none⟩ = some (.int .i64 t399) := (blk_cell BK403.out 0).trans rfl; have hcz88_1 : w85.cell? ⟨gb403, 1, none⟩ = some (.slice Ao20 t400.length co20) := (blk_cell BK403.out 1).trans rfl; have hfz88_0 := blk_frozen BK403.out 0; have hfz88_1 := blk_frozen BK403.out 1; have hcz89_0 : w85.cell? ⟨gb397, 0, none⟩ = some (.int .i64 a0_0) := (blk_cell BK397.out 0).trans rfl; have hcz89_1 : w85.cell? ⟨gb397, 1, none⟩ = some (.slice A0_1 l0_1.length c0_1) := (blk_cell BK397.out 1).trans rfl; have hfz89_0 := blk_frozen BK397.out 0; have hfz89_1 := blk_frozen BK397.out 1) | ((with_reducible refine gate_callee (f := 37) rfl ?_); (with_reducible refine gate_dst (N := 129) rfl ?_); refine gate_guard (by rfl) ?_; dsimp only; refine goesL_ (some 129) rfl rfl Try.func37 (by kernel_rfl) rfl #[.agg #[.int .i64 t399, .slice Ao20 t400.length co20], .agg #[.int .i64 a0_0, .slice A0_1 l0_1.length c0_1]] rfl (by (try simp only [List.map_toArray, List.map_cons, List.map_nil]); first | done | rfl | (simp only [List.length_drop, List.length_take]; rfl)) ?_; (with_reducible refine (K_SameTable.calls kj46 t399 _ _ t400 a0_0 _ _ l0_1 true _ ?side1 ?side2 ?side3 ?side4 A74.out).mono ?_); (case side1 => repeat (first | exact (Kd.R_reads' HO_404001.out).2.2 | (with_reducible refine Kd.C_alloc ?_ _) | (with_reducible refine Kd.C_drewN ?_ _) | (with_reducible refine Kd.C_drew ?_))); (case side2 => exact (Kd.R_reads' HO_404001.out).2.1); (case side3 => repeat (first | exact (Kd.C_below HR0_1.out (by repeat (first | (with_reducible first | exact HB.out | apply below_alloc | apply pw_below_drewN | apply below_drew1 | refine below_set ?_ GE397.out | refine below_set ?_ GE403.out | refine below_set ?_ GE410.out | refine below_set ?_ GE417.out) | exact HB.out))) | (with_reducible refine Kd.C_alloc ?_ _) | (with_reducible refine Kd.C_drewN ?_ _) | (with_reducible refine Kd.C_drew ?_))); (case side4 => exact HC0_1.out); rintro e w90 ⟨rfl, hb⟩; refine ⟨_, rfl, ?_⟩; have n0_ := Aside0.mk (Kd.R_below (by (with_reducible repeat (first | apply Kd.R_alloc | apply Kd.R_drewN | apply Kd.R_drew)); exact HO_404001.out) hb); have n1_ := Aside0.mk (Kd.R_below (by (with_reducible repeat (first | apply Kd.R_alloc | apply Kd.R_drewN | apply Kd.R_drew)); exact HO435.out) hb); have n2_ := Aside0.mk (Kd.R_below (by (with_reducible repeat (first | apply Kd.R_alloc | apply Kd.R_drewN | apply Kd.R_drew)); exact HO439.out) hb); have n3_ := Aside0.mk (blk_below (g := gb397) (o := .cells #[.int .i64 a0_0, .slice A0_1 l0_1.length c0_1] 25 (0, 0)) (by (with_reducible repeat (first | refine blk_drewN ?_ _ | refine blk_drew ?_ | refine blk_alloc ?_ _)); exact BK397.out) hb); have n4_ := Aside0.mk (blk_below (g := gb403) (o := .cells #[.int .i64 t399, .slice Ao20 t400.length co20] 25 (0, 0)) (by (with_reducible repeat (first | refine blk_drewN ?_ _ | refine blk_drew ?_ | refine blk_alloc ?_ _)); exact BK403.out) hb); have n5_ := Aside0.mk (blk_below (g := gb410) (o := .cells #[.int .i64 t404, .int .i64 t405, .int .i64 t406, .int .i64 t407] 29 (0, 0)) (by (with_reducible repeat (first | refine blk_drewN ?_ _ | refine blk_drew ?_ | refine blk_alloc ?_ _)); exact BK410.out) hb); have n6_ := Aside0.mk (blk_below (g := gb417) (o := .cells #[.int .i64 t411, .int .i64 t412, .int .i64 t413, .int .i64 t414] 29 (0, 0)) (by (with_reducible repeat (first | refine blk_drewN ?_ _ | refine blk_drew ?_ | refine blk_alloc ?_ _)); exact BK417.out) hb); have n7_ := Aside0.mk (below_step (by repeat (first | (with_reducible first | exact HB.out | apply below_alloc | apply pw_below_drewN | apply below_drew1 | refine below_set ?_ GE397.out | refine below_set ?_ GE403.out | refine below_set ?_ GE410.out | refine below_set ?_ GE417.out) | exact HB.out)) hb); clear HO_404001; clear HO435; clear HO439; clear BK397; clear BK403; clear BK410; clear BK417; clear HB; have HO_404001 := n0_; have HO435 := n1_; have HO439 := n2_; have BK397 := n3_; have BK403 := n4_; have BK410 := n5_; have BK417 := n6_; have HB := n7_; clear n0_ n1_ n2_ n3_ n4_ n5_ n6_ n7_; (try clear hb); (try clear hb2); (try clear hk); (try clear hi)) | ((with_reducible refine gate_callee (f := 30) rfl ?_); (with_reducible refine gate_dst (N := 132) rfl ?_); refine gate_guard (by rfl) ?_; dsimp only; refine goesL_ (some 132) rfl rfl Try.func30 (by kernel_rfl) rfl #[] rfl (by (try simp only [List.map_toArray, List.map_cons, List.map_nil]); first | done | rfl | (simp only [List.length_drop, List.length_take]; rfl)) ?_; (with_reducible refine (L21_awake.calls kj46  true _ A76.out).mono ?_); rintro e w91 ⟨rfl, hb⟩; refine ⟨_, rfl, ?_⟩; have n0_ := Aside0.mk (Kd.R_below (by (with_reducible repeat (first | apply Kd.R_alloc | apply Kd.R_drewN | apply Kd.R_drew)); exact HO_404001.out) hb); have n1_ := Aside0.mk (Kd.R_below (by (with_reducible repeat (first | apply Kd.R_alloc | apply Kd.R_drewN | apply Kd.R_drew)); exact HO435.out) hb); have n2_ := Aside0.mk (Kd.R_below (by (with_reducible repeat (first | apply Kd.R_alloc | apply Kd.R_drewN | apply Kd.R_drew)); exact HO439.out) hb); have n3_ := Aside0.mk (blk_below (g := gb397) (o := .cells #[.int .i64 a0_0, .slice A0_1 l0_1.length c0_1] 25 (0, 0)) (by (with_reducible repeat (first | refine blk_drewN ?_ _ | refine blk_drew ?_ | refine blk_alloc ?_ _)); exact BK397.out) hb); have n4_ := Aside0.mk (blk_below (g := gb403) (o := .cells #[.int .i64 t399, .slice Ao20 t400.length co20] 25 (0, 0)) (by (with_reducible repeat (first | refine blk_drewN ?_ _ | refine blk_drew ?_ | refine blk_alloc ?_ _)); exact BK403.out) hb); have n5_ := Aside0.mk (blk_below (g := gb410) (o := .cells #[.int .i64 t404, .int .i64 t405, .int .i64 t406, .int .i64 t407] 29 (0, 0)) (by (with_reducible repeat (first | refine blk_drewN ?_ _ | refine blk_drew ?_ | refine blk_alloc ?_ _)); exact BK410.out) hb); have n6_ := Aside0.mk (blk_below (g := gb417) (o := .cells #[.int .i64 t411, .int .i64 t412, .int .i64 t413, .int .i64 t414] 29 (0, 0)) (by (with_reducible repeat (first | refine blk_drewN ?_ _ | refine blk_drew ?_ | refine blk_alloc ?_ _)); exact BK417.out) hb); have n7_ := Aside0.mk (below_step (by repeat (first | (with_reducible first | exact HB.out | apply below_alloc | apply pw_below_drewN | apply below_drew1 | refine below_set ?_ GE397.out | refine below_set ?_ GE403.out | refine below_set ?_ GE410.out | refine below_set ?_ GE417.out) | exact HB.out)) hb); clear HO_404001; clear HO435; clear HO439; clear BK397; clear BK403; clear BK410; clear BK417; clear HB; have HO_404001 := n0_; have HO435 := n1_; have HO439 := n2_; have BK397 := n3_; have BK403 := n4_; have BK410 := n5_; have BK417 := n6_; have HB := n7_; clear n0_ n1_ n2_ n3_ n4_ n5_ n6_ n7_; (try clear hb); (try clear hb2); (try clear hk); (try clear hi)))
                      all_goals go_ret
                      all_goals exact ⟨by first | rfl | (simp [errW_none, errW_some] <;> rfl) | (simp [*, errW_none, errW_some] <;> rfl), by repeat (first | (with_reducible first | exact HB.out | apply below_alloc | apply pw_below_drewN | apply below_drew1 | refine below_set ?_ GE397.out | refine below_set ?_ GE403.out | refine below_set ?_ GE410.out | refine below_set ?_ GE417.out) | exact HB.out)⟩
                    · replace c75 := Bool.eq_false_iff.mpr c75
                      subst c75
                      have H1 : (some false) = some true := by rw [if_neg (show ¬ (false = true) by decide)] at H; exact H
                      clear H
                      have H := H1
                      clear H1
                      exact absurd H (by repeat (first | exact never_none | exact never_false | refine never_ite ?_ ?_ | refine never_bind (fun _ => ?_) | exact L21_TableLooks.j0_d55true _ _ _ _ _ _ _ _ | exact L21_TableLooks.j1_d103true _ _ _ _ _ _ _))
                  · rw [if_neg c73] at H
                    have c73b0 : (t436 == t440) = false := beq_eq_false_iff_ne.mpr c73
                    have c73b1 : (t436 != t440) = true := bne_iff_ne.mpr c73
                    exact absurd H (by repeat (first | exact never_none | exact never_false | refine never_ite ?_ ?_ | refine never_bind (fun _ => ?_) | exact L21_TableLooks.j0_d55true _ _ _ _ _ _ _ _ | exact L21_TableLooks.j1_d103true _ _ _ _ _ _ _))
                · replace c72 := Bool.eq_false_iff.mpr c72
                  subst c72
                  have H1 : (some false) = some true := by rw [if_neg (show ¬ (false = true) by decide)] at H; exact H
                  clear H
                  have H := H1
                  clear H1
                  exact absurd H (by repeat (first | exact never_none | exact never_false | refine never_ite ?_ ?_ | refine never_bind (fun _ => ?_) | exact L21_TableLooks.j0_d55true _ _ _ _ _ _ _ _ | exact L21_TableLooks.j1_d103true _ _ _ _ _ _ _))

end Go.Proofs.Ytmfbpkjhabdcgaa.F
end
section
/- Written by fork.py: what the row of TableLooks tells of its arguments. -/
namespace Go.Proofs.Ytmfbpkjhabdcgaa.tableLooks
open Go.RowKit
def Wf29 (x : F.S29) : Prop := (Lit.int .i64 x.f0).wf = true ∧ (Lit.int .i64 x.f1).wf = true ∧ (Lit.int .i64 x.f2).wf = true ∧ (Lit.int .i64 x.f3).wf = true
def Wf25 (x : F.S25) : Prop := (Lit.int .i64 x.f0).wf = true ∧ (∀ y ∈ x.f1, Wf29 y)
/-- The plain law of TableLooks. -/
def Law : Prop := ∀ (y0 : F.S25) (y1 : Int) (y2 : Int) (y3 : Int), Wf25 y0 → (Lit.int .i64 y1).wf = true → (Lit.int .i64 y2).wf = true → (Lit.int .i64 y3).wf = true → ∃ k, F.L21_TableLooks.f k y0.f0 y0.f1 y1 y2 y3 = some true
end Go.Proofs.Ytmfbpkjhabdcgaa.tableLooks
end
section
/- The plain law TableLooks of chapter 21: the printed function answers true at every table and three numbers. No condition but those of the row. -/
namespace Go.Proofs.Ytmfbpkjhabdcgaa.Pure
open Go.RowKit Go.Proofs.Ytmfbpkjhabdcgaa.F Go.Proofs.YtmfbpkjhabdcgaaW.PrintWords Go.Proofs.YtmfbpkjhabdcgaaW.PrintLast
set_option linter.unusedVariables false
set_option linter.unusedSimpArgs false

theorem awakeL {k : Nat} (hk : 80 ≤ k) : L21_awake.f k = some true := le_fuel L21_awake.mono hk (by kernel_rfl)

theorem u64_nonneg (x : Int) : 0 ≤ IntKind.u64.wrap x := by
  have h : IntKind.u64.wrap x = x % 18446744073709551616 := by simp [IntKind.wrap, IntKind.bits, IntKind.signed]
  rw [h]
  exact Int.emod_nonneg _ (by decide)

theorem tabRun_inv (all : List S29) : ∀ (r : List S29) (i : Nat) (L : List (Int × Int × Int)) (n : Int), tabRun all r i L = some (0, n) → ∀ x ∈ r, okC x
  | [], _, _, _, _ => fun _ h => (List.not_mem_nil h).elim
  | x :: r, i, L, n, h => by
    unfold tabRun at h
    rw [call_err (by omega)] at h
    simp only [Option.bind_some] at h
    split at h
    · rename_i he
      split at h
      · simp at h
      · split at h
        · simp at h
        · intro y hy
          rcases List.mem_cons.1 hy with rfl | hy
          · exact he
          · exact tabRun_inv all r _ _ _ h y hy
    · rename_i he
      simp only [Option.some.injEq, Prod.mk.injEq] at h
      exact absurd h.1 he

theorem check_inv {a n : Int} {l : List S29} (h : table_Check.f a l = some (0, n)) : ∀ x ∈ l, okC x := by
  unfold table_Check.f at h
  split at h
  · simp at h
  · split at h
    · simp at h
    · split at h
      · simp at h
      · exact tabRun_inv l l _ _ _ h

theorem halls_loop (a : Int) (l : List S29) (hl : l.length ≤ 40) : ∀ (d j k k' : Nat) (u v : Int), j + d = l.length → d + 1 ≤ k → d + 1 ≤ k' →
    ∃ r, table_Halls.l0 k u v l (l.length : Int) j = some r ∧ R21_Halls.l0 k' u v j a l = some r
  | 0, j, k, k', u, v, h, hk, hk' => by
    obtain ⟨k, rfl⟩ : ∃ i, k = i + 1 := ⟨k - 1, by omega⟩
    obtain ⟨k', rfl⟩ : ∃ i, k' = i + 1 := ⟨k' - 1, by omega⟩
    rw [R21_Halls.l0, if_neg (by omega), table_Halls.l0, if_neg (by omega)]
    exact ⟨_, rfl, rfl⟩
  | d + 1, j, k, k', u, v, h, hk, hk' => by
    obtain ⟨k, rfl⟩ : ∃ i, k = i + 1 := ⟨k - 1, by omega⟩
    obtain ⟨k', rfl⟩ : ∃ i, k' = i + 1 := ⟨k' - 1, by omega⟩
    have ih := fun u v => halls_loop a l hl d (j + 1) k k' u v (by omega) (by omega) (by omega)
    have hlt : (j : Int) < (l.length : Int) := by omega
    have h0 : (0 : Int) ≤ (j : Int) := by omega
    have ew : wrap64 ((j : Int) + 1) = ((j + 1 : Nat) : Int) := by rw [wrap_id (by omega) (by omega)]; omega
    have hu := u64_nonneg (rd_T29 l (j : Int)).f1
    rw [R21_Halls.l0, if_pos hlt, if_pos h0, table_Halls.l0, if_pos hlt, if_pos h0, if_pos hlt, if_pos hu, if_pos hu, if_pos hu, ew]
    by_cases h1 : (rd_T29 l (j : Int)).f0 = 1
    · rw [if_pos h1, if_pos h1]
      exact ih _ _
    · rw [if_neg h1, if_neg h1]
      by_cases h2 : (rd_T29 l (j : Int)).f0 = 2
      · rw [if_pos h2, if_pos h2]
        exact ih _ _
      · rw [if_neg h2, if_neg h2]
        exact ih _ _

theorem of_loop (x1 a : Int) (l : List S29) (hl : l.length ≤ 40) : ∀ (d j k : Nat) (g : List S29), j + d = l.length → d + 1 ≤ k → g.length ≤ j →
    R21_Of.l0 k x1 g j a l = some (g ++ (l.drop j).filter (fun x => !(x.f0 != 3) && x.f2 == x1), 0)
  | 0, j, k, g, h, hk, hg => by
    obtain ⟨k, rfl⟩ : ∃ i, k = i + 1 := ⟨k - 1, by omega⟩
    rw [R21_Of.l0, if_neg (by omega), List.drop_eq_nil_of_le (by omega)]
    simp
  | d + 1, j, k, g, h, hk, hg => by
    obtain ⟨k, rfl⟩ : ∃ i, k = i + 1 := ⟨k - 1, by omega⟩
    have hj : j < l.length := by omega
    have ih := fun g hg => of_loop x1 a l hl d (j + 1) k g (by omega) (by omega) hg
    have hg1 : g.length < 4398046511104 := by omega
    have hga : (g ++ [l[j]]).length ≤ j + 1 := by simp; omega
    have hgb : g.length ≤ j + 1 := by omega
    have hlt : (j : Int) < (l.length : Int) := by omega
    have h0 : (0 : Int) ≤ (j : Int) := by omega
    have ew : wrap64 ((j : Int) + 1) = ((j + 1 : Nat) : Int) := by rw [wrap_id (by omega) (by omega)]; omega
    rw [R21_Of.l0, if_pos hlt, if_pos h0, rd_at l j hj, ew, List.drop_eq_getElem_cons hj]
    unfold R21_hall.f
    simp only [Option.bind_some]
    by_cases hp : (l[j].f0 != 3) = true
    · rw [if_pos hp]
      refine (ih g hgb).trans ?_
      simp only [List.filter_cons, hp, Bool.not_true, Bool.false_and, Bool.false_eq_true, if_false]
    · rw [if_neg hp]
      have hp' : (l[j].f0 != 3) = false := by simpa using hp
      by_cases hq : l[j].f2 = x1
      · rw [if_pos hq, if_pos hg1]
        refine (ih (g ++ [l[j]]) hga).trans ?_
        have hq' : (l[j].f2 == x1) = true := beq_iff_eq.mpr hq
        simp only [List.filter_cons, hp', hq', Bool.not_false, Bool.true_and, if_true, List.append_assoc, List.singleton_append]
      · rw [if_neg hq]
        refine (ih g hgb).trans ?_
        have hq' : (l[j].f2 == x1) = false := beq_eq_false_iff_ne.mpr hq
        simp only [List.filter_cons, hp', hq', Bool.not_false, Bool.true_and, Bool.false_eq_true, if_false]

theorem urgent_loop (x1 x2 a : Int) (l : List S29) (hl : l.length ≤ 40) : ∀ (d j k : Nat) (g : List S29), j + d = l.length → d + 1 ≤ k → g.length ≤ j →
    R21_Urgent.l0 k x1 x2 g j a l = some (g ++ (l.drop j).filter (isUrgent x1 x2), 0)
  | 0, j, k, g, h, hk, hg => by
    obtain ⟨k, rfl⟩ : ∃ i, k = i + 1 := ⟨k - 1, by omega⟩
    rw [R21_Urgent.l0, if_neg (by omega), List.drop_eq_nil_of_le (by omega)]
    simp
  | d + 1, j, k, g, h, hk, hg => by
    obtain ⟨k, rfl⟩ : ∃ i, k = i + 1 := ⟨k - 1, by omega⟩
    have hj : j < l.length := by omega
    have ih := fun g hg => urgent_loop x1 x2 a l hl d (j + 1) k g (by omega) (by omega) hg
    have hg1 : g.length < 4398046511104 := by omega
    have hga : (g ++ [l[j]]).length ≤ j + 1 := by simp; omega
    have hgb : g.length ≤ j + 1 := by omega
    have hlt : (j : Int) < (l.length : Int) := by omega
    have h0 : (0 : Int) ≤ (j : Int) := by omega
    have ew : wrap64 ((j : Int) + 1) = ((j + 1 : Nat) : Int) := by rw [wrap_id (by omega) (by omega)]; omega
    have hno : isUrgent x1 x2 l[j] = false → R21_Urgent.l0 k x1 x2 g ((j + 1 : Nat) : Int) a l = some (g ++ (l[j] :: l.drop (j + 1)).filter (isUrgent x1 x2), 0) := fun hq => by
      refine (ih g hgb).trans ?_
      simp only [List.filter_cons, hq, Bool.false_eq_true, if_false]
    rw [R21_Urgent.l0, if_pos hlt, if_pos h0, rd_at l j hj, ew, List.drop_eq_getElem_cons hj]
    unfold R21_hall.f
    simp only [Option.bind_some]
    by_cases hp : (l[j].f0 != 3) = true
    · rw [if_pos hp]
      by_cases h1 : x1 ≥ l[j].f3
      · rw [if_pos h1]
        by_cases h2 : wrap64 (x1 - l[j].f3) ≥ x2
        · rw [if_pos h2, if_pos hg1]
          refine (ih (g ++ [l[j]]) hga).trans ?_
          have hq : isUrgent x1 x2 l[j] = true := by
            unfold isUrgent
            rw [hp, decide_eq_true (show l[j].f3 ≤ x1 from h1), decide_eq_true (show x2 ≤ wrap64 (x1 - l[j].f3) from h2)]; rfl
          simp only [List.filter_cons, hq, if_true, List.append_assoc, List.singleton_append]
        · rw [if_neg h2]
          exact hno (by unfold isUrgent; rw [decide_eq_false (show ¬ x2 ≤ wrap64 (x1 - l[j].f3) from h2)]; simp)
      · rw [if_neg h1]
        exact hno (by unfold isUrgent; rw [decide_eq_false (show ¬ l[j].f3 ≤ x1 from h1)]; simp)
    · rw [if_neg hp]
      exact hno (by unfold isUrgent; rw [show (l[j].f0 != 3) = false by simpa using hp]; simp)

theorem halls_same {k : Nat} (hk : 150 ≤ k) (a : Int) (l : List S29) (hl : l.length ≤ 40) : ∃ r, table_Halls.f k a l = some r ∧ R21_Halls.f k a l = some r := by
  obtain ⟨e, n, hc⟩ := check_total a l
  obtain ⟨r, h1, h2⟩ := halls_loop a l hl l.length 0 k k 0 0 (by omega) (by omega) (by omega)
  unfold table_Halls.f R21_Halls.f table_valid.f
  rw [check_ref (by omega) a l hl, hc]
  simp only [Option.bind_some]
  by_cases he : e = 0
  · rw [if_pos he, if_pos he]
    exact ⟨r, h1, h2⟩
  · rw [if_neg he, if_neg he]
    exact ⟨_, rfl, rfl⟩

theorem of_same {k : Nat} (hk : 150 ≤ k) (a : Int) (l : List S29) (hl : l.length ≤ 40) (x1 : Int) : ∃ A E, table_Of.f a l x1 = some (A, E) ∧ R21_Of.f k a l x1 = some (A, E) ∧ A.length ≤ 40 := by
  obtain ⟨k, rfl⟩ : ∃ i, k = i + 2 := ⟨k - 2, by omega⟩
  obtain ⟨e, n, hc⟩ := check_total a l
  have hlp := of_loop x1 a l hl l.length 0 k [] (by omega) (by omega) (by simp)
  rw [List.drop_zero, List.nil_append] at hlp
  have hll : l.length < 4398046511104 := by omega
  have b1 := List.length_filter_le (fun x : S29 => x.f2 == x1) l
  have b2 : (l.filter (fun x : S29 => x.f2 == x1)).length ≤ 40 := by omega
  unfold table_Of.f R21_Of.f table_valid.f
  rw [check_ref (by omega) a l hl, hc]
  simp only [Option.bind_some]
  by_cases he : e = 0
  · subst he
    rw [if_pos rfl, if_pos rfl]
    by_cases h1 : x1 < 1
    · rw [if_pos h1, if_pos h1, R21_Of.j0, if_pos rfl, R21_Of.j1, if_neg (by decide)]
      exact ⟨_, _, rfl, rfl, by simp⟩
    rw [if_neg h1, if_neg h1]
    by_cases h2 : x1 > 8
    · rw [if_pos h2, R21_Of.j0, if_pos (decide_eq_true h2), R21_Of.j1, if_neg (by decide)]
      exact ⟨_, _, rfl, rfl, by simp⟩
    rw [if_neg h2, if_pos hll, R21_Of.j0, if_neg (by simpa using h2), R21_Of.j1, if_pos rfl]
    refine ⟨_, _, rfl, ?_, b2⟩
    refine hlp.trans ?_
    congr 2
    refine List.filter_congr fun x hx => ?_
    by_cases hq : x.f2 = x1
    · have hv := check_inv hc x hx
      have h3 : x.f0 = 3 := by
        unfold okC errC at hv
        split at hv
        · cases hv
        · split at hv
          · cases hv
          · split at hv
            · cases hv
            · omega
      simp [h3, hq]
    · simp [beq_eq_false_iff_ne.mpr hq]
  · rw [if_neg he, if_neg he, R21_Of.j0, if_neg (by decide), R21_Of.j1, if_neg he]
    exact ⟨_, _, rfl, rfl, by simp⟩

theorem urgent_same {k : Nat} (hk : 150 ≤ k) (a : Int) (l : List S29) (hl : l.length ≤ 40) (x1 x2 : Int) : ∃ A E, table_Urgent.f a l x1 x2 = some (A, E) ∧ R21_Urgent.f k a l x1 x2 = some (A, E) ∧ A.length ≤ 40 := by
  obtain ⟨k, rfl⟩ : ∃ i, k = i + 2 := ⟨k - 2, by omega⟩
  obtain ⟨e, n, hc⟩ := check_total a l
  have hlp := urgent_loop x1 x2 a l hl l.length 0 k [] (by omega) (by omega) (by simp)
  rw [List.drop_zero, List.nil_append] at hlp
  have hll : l.length < 4398046511104 := by omega
  have b1 := List.length_filter_le (isUrgent x1 x2) l
  have b2 : (l.filter (isUrgent x1 x2)).length ≤ 40 := by omega
  unfold table_Urgent.f R21_Urgent.f table_valid.f
  rw [check_ref (by omega) a l hl, hc]
  simp only [Option.bind_some]
  by_cases he : e = 0
  · subst he
    rw [if_pos rfl, if_pos rfl]
    by_cases h1 : x2 < 0
    · rw [if_pos h1, R21_Urgent.j0, if_pos (decide_eq_true h1), R21_Urgent.j1, if_neg (by decide)]
      exact ⟨_, _, rfl, rfl, by simp⟩
    rw [if_neg h1, if_pos hll, R21_Urgent.j0, if_neg (by simpa using h1), R21_Urgent.j1, if_pos rfl]
    exact ⟨_, _, rfl, hlp, b2⟩
  · rw [if_neg he, if_neg he, R21_Urgent.j0, if_neg (by decide), R21_Urgent.j1, if_neg he]
    exact ⟨_, _, rfl, rfl, by simp⟩

theorem oldest_same {k : Nat} (hk : 150 ≤ k) (a : Int) (l : List S29) (hl : l.length ≤ 40) : ∃ r, table_Oldest.f a l = some r ∧ R21_Oldest.f k a l = some r := by
  obtain ⟨e, n, hc⟩ := check_total a l
  unfold table_Oldest.f R21_Oldest.f table_valid.f
  rw [check_ref (by omega) a l hl, hc]
  simp only [Option.bind_some]
  by_cases he : e = 0
  · rw [if_pos he]
    by_cases h0 : (l.length : Int) = 0
    · rw [if_pos h0]
      exact ⟨_, rfl, rfl⟩
    · rw [if_neg h0, if_pos (by omega)]
      exact ⟨_, rfl, rfl⟩
  · rw [if_neg he]
    exact ⟨_, rfl, rfl⟩

theorem TableLooks : tableLooks.Law := by
  intro y0 x1 x2 x3 _ _ _ _
  obtain ⟨a, l⟩ := y0
  obtain ⟨k, hk⟩ : ∃ k : Nat, 200 ≤ k := ⟨200, Nat.le_refl _⟩
  refine ⟨k, ?_⟩
  show L21_TableLooks.f k a l x1 x2 x3 = some true
  unfold L21_TableLooks.f
  by_cases hl : (l.length : Int) > 40
  · rw [if_pos hl, awakeL (by omega)]
    rfl
  · rw [if_neg hl, own_table a l (by omega)]
    have hl' : l.length ≤ 40 := by omega
    obtain ⟨r, h1, h2⟩ := oldest_same (k := k) (by omega) a l hl'
    simp only [Option.bind_some]
    rw [h1, h2]
    simp only [Option.bind_some]
    rw [if_neg (by simp), if_neg (by simp)]
    obtain ⟨k, rfl⟩ : ∃ i, k = i + 2 := ⟨k - 2, by omega⟩
    rw [L21_TableLooks.j0, if_neg (by simp)]
    obtain ⟨r2, g1, g2⟩ := halls_same (k := k + 1) (by omega) a l hl'
    obtain ⟨A, E, f1, f2, f3⟩ := of_same (k := k + 1) (by omega) a l hl' x1
    rw [g1, g2, f1, f2]
    simp only [Option.bind_some, if_true]
    rw [same_calls A (by omega) (by omega)]
    simp only [Option.bind_some, if_true]
    rw [L21_TableLooks.j1, if_neg (by simp)]
    obtain ⟨A', E', q1, q2, q3⟩ := urgent_same (k := k) (by omega) a l hl' x2 x3
    rw [q1, q2]
    simp only [Option.bind_some]
    rw [same_calls A' (by omega) (by omega)]
    simp only [Option.bind_some, if_true]
    rw [same_table a l (by omega) (by omega), awakeL (by omega)]
    rfl

end Go.Proofs.Ytmfbpkjhabdcgaa.Pure
end
section
/- The statement TableLooks holds: the law's function answers true at every input, and the input reads as it did. No condition. (Written by fork.py; its parameters are structs.) -/
namespace Go.Proofs.Ytmfbpkjhabdcgaa.tableLooks
open Go.ChangeShapes Go.WideShapes Go.ChangeAt Go.RowKit Go.Proofs.YtmfbpkjhabdcgaaW.PrintWords
open Go.ChangeMaps (open_string shut_string)
set_option linter.unusedVariables false
theorem own : ownKnob Try.prog.godebug = none := by kernel_rfl
theorem laidOut : laidOutB Try.prog = true := by kernel_rfl
theorem opens29 : F.Opens Try.prog 29 F.k29 Wf29 := by
  have h := F.opens_struct (fun x : F.S29 => (x.f0, x.f1, x.f2, x.f3)) (fun y => ⟨y.1, y.2.1, y.2.2.1, y.2.2.2⟩) (fun _ => rfl) Try.underlying29 (by kernel_rfl)
    (F.opensFs_cons rfl (F.opens_int Try.underlying3 (by kernel_rfl)) (F.opensFs_cons rfl (F.opens_int Try.underlying3 (by kernel_rfl)) (F.opensFs_cons rfl (F.opens_int Try.underlying3 (by kernel_rfl)) (F.opensFs_one rfl (F.opens_int Try.underlying3 (by kernel_rfl))))))
  exact h
theorem opens25 : F.Opens Try.prog 25 F.k25 Wf25 := by
  have h := F.opens_struct (fun x : F.S25 => (x.f0, x.f1)) (fun y => ⟨y.1, y.2⟩) (fun _ => rfl) Try.underlying25 (by kernel_rfl)
    (F.opensFs_cons rfl (F.opens_int Try.underlying3 (by kernel_rfl)) (F.opensFs_one rfl (F.opens_slice Try.underlying23 (by kernel_rfl) opens29)))
  exact h
set_option maxRecDepth 100000 in
theorem lifted (os : Os) (started : os.Started) (H : Type) (enc : TypeId × Value → H) :
    ReturnsInHanded {} Try.checked os 6 .any (Rows.tableLooksSpec.pre6 enc Try.prog Try.f6 Rows.tableLooksRow.domain false) (Rows.tableLooksSpec.post enc Try.prog Try.f6 false true false false) := by
  refine returnsInHanded_of_change_sized (C := Try.checked) own started (by kernel_rfl) Try.func6
    (ChangeSpec.witness6 (enc := enc) (C := Try.checked) false ⟨#[], #[.agg #[.int .i64 0, .slice none 0 0], .int .i64 0, .int .i64 0, .int .i64 0], []⟩ 8 (by kernel_rfl) (by kernel_rfl) (by kernel_rfl) (by kernel_rfl)) ?_
  intro W base args ds gs before hval0 hW hcnd hsz0 _
  have hval : ∀ (j : Nat) t v, Try.f6.params[j]? = some t → args[j]? = some v → Value.okWide Try.prog W .any base t v := hval0
  have hW' := hW
  obtain ⟨p, q, hA0, hV, rfl, hfz, hnd⟩ := hW
  have hA : DataW.TrodAll enc Try.prog W 0 (fun _ => true) true Try.f6.params.toList args.toList ds p := hA0
  rw [Try.params6] at hA hval
  obtain ⟨v0, vs0, d0, ds0, p0, q0, hargs, rfl, rfl, h0, r0⟩ := trodAll_cons hA
  obtain ⟨v1, vs1, d1, ds1, p1, q1, rfl, rfl, rfl, h1, r1⟩ := trodAll_cons r0
  obtain ⟨v2, vs2, d2, ds2, p2, q2, rfl, rfl, rfl, h2, r2⟩ := trodAll_cons r1
  obtain ⟨v3, vs3, d3, ds3, p3, q3, rfl, rfl, rfl, h3, r3⟩ := trodAll_cons r2
  obtain ⟨rfl, rfl, rfl⟩ := trodAll_nil r3
  obtain rfl : args = #[v0, v1, v2, v3] := by cases args; simp_all
  obtain ⟨rfl, rfl⟩ := trodVars_none hV
  have lt0 : ∀ x ∈ p0, x.block < W.heap.size := by obtain ⟨m, hm⟩ := h0; exact DataW.trod_lt m _ _ _ hm
  have lt1 : ∀ x ∈ p1, x.block < W.heap.size := by obtain ⟨m, hm⟩ := h1; exact DataW.trod_lt m _ _ _ hm
  have lt2 : ∀ x ∈ p2, x.block < W.heap.size := by obtain ⟨m, hm⟩ := h2; exact DataW.trod_lt m _ _ _ hm
  have lt3 : ∀ x ∈ p3, x.block < W.heap.size := by obtain ⟨m, hm⟩ := h3; exact DataW.trod_lt m _ _ _ hm
  obtain ⟨cs0, rfl, _⟩ := okWide_struct Try.underlying25 (hval 0 25 v0 rfl rfl)
  obtain ⟨y0, K0, f0⟩ := opens25.arg h0
  obtain ⟨A0_1, c0_1, e0, l0_1, g0_1⟩ := F.k25_open K0
  obtain rfl : cs0 = #[.int .i64 y0.f0, .slice A0_1 y0.f1.length c0_1] := Array.toList_inj.1 e0
  obtain ⟨y1, rfl, rfl, rfl, f1⟩ := open_int Try.underlying3 (hval 1 3 v1 rfl rfl) h1
  obtain ⟨y2, rfl, rfl, rfl, f2⟩ := open_int Try.underlying3 (hval 2 3 v2 rfl rfl) h2
  obtain ⟨y3, rfl, rfl, rfl, f3⟩ := open_int Try.underlying3 (hval 3 3 v3 rfl rfl) h3
  clear hA0 hval0 hsz0
  obtain ⟨k, hk⟩ := Pure.TableLooks y0 y1 y2 y3 f0 f1 f2 f3
  refine (F.L21_TableLooks.calls k y0.f0 _ _ y0.f1 y1 y2 y3 true W g0_1 l0_1 hk).mono fun e W' ⟨he, bel⟩ => ?_
  subst he
  exact ⟨_, rfl, _, _, _, [], _, [], hW', trodAll_mk1 (shut_bool Try.underlying4 _), (trodAll_cons_mk (Below.trod laidOut (by kernel_rfl) (of_decide_eq_true (by kernel_rfl)) h0 bel lt0) (trodAll_cons_mk (shut_int Try.underlying3 f1) (trodAll_cons_mk (shut_int Try.underlying3 f2) (trodAll_cons_mk (shut_int Try.underlying3 f3) trodAll_mk0)))), rfl, bel.frame _, fun h => by cases h⟩
theorem over : Rows.tableLooksRow.holds Try.pinned (OpenSpec.ofChange Rows.tableLooksSpec) :=
  OpenClaim.holds_of_wide 6 Try.f6 rfl rfl rfl rfl rfl rfl rfl ⟨rfl, rfl, rfl, rfl, rfl⟩ rfl rfl rfl rfl rfl (by kernel_rfl) Try.func6 (by show joinedFacts Try.prog 6 Try.f6 Rows.tableLooksSpec Rows.tableLooksRow = true; unfold joinedFacts; rw [may_enter, lifts_not, make_cut]; kernel_rfl)
    (of_decide_eq_true (by kernel_rfl)) (by unfold Func.isWrapper; first | (rw [if_pos (by decide +kernel)]; kernel_rfl) | (rw [if_neg (by decide +kernel)]; exact ⟨rfl, rfl⟩))
    (fun os started H enc _ => lifted os started H enc)
theorem proved : Rows.TableLooksSaid := over
#print axioms proved
end Go.Proofs.Ytmfbpkjhabdcgaa.tableLooks
namespace Go.Proofs.Ytmfbpkjhabdcgaa
/-- The row, under a short name, for the claim. -/
theorem tableLooks_holds : Rows.TableLooksSaid := tableLooks.proved
end Go.Proofs.Ytmfbpkjhabdcgaa
end
