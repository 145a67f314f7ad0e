/- key.Covers: 'for s := range stretches(k, history) { is = is || .. }': by hand. -/
import Derived.Test.YtlcghmfkgblheaaXStretches
namespace Go.Proofs.Ytlcghmfkgblheaa.F
open Go.RowKit Go.Shelf Go.Proofs.YtlcghmfkgblheaaW.PrintWords Go.Proofs.YtlcghmfkgblheaaW.PrintLast Go.Proofs.YtlcghmfkgblheaaW.PrintMore
attribute [local go_sem] Oper.semAt_some
set_option linter.unusedVariables false
set_option linter.unusedSimpArgs false

def covered (a b : Int) (l : List S39) : Bool := l.foldl (fun is s => is || (decide (s.f0 ≤ a) && decide (b ≤ s.f1))) (a == b)
theorem covered_snoc (a b : Int) (l : List S39) (s : S39) : covered a b (l ++ [s]) = (covered a b l || (decide (s.f0 ≤ a) && decide (b ≤ s.f1))) := by simp [covered]

def key_Covers.f (l0_0 : List Int) (a0_1 : Int) (a0_2 : Int) (l1 : List (S37)) (a2 : Int) (a3 : Int) : Option (Bool × Int) :=
  (key_wrong.f 4096 l0_0 a0_1 a0_2 l1).bind fun e => if e = 0 then (if a2 < 0 then some (false, 2) else if a3 < a2 then some (false, 2) else if a3 > 1099511627776 then some (false, 2) else
    if l1.length ≤ 2000 then (strRun l0_0 a0_1 a0_2 l1 0 0 []).map fun l => (covered a2 a3 l, 0) else none) else some (false, e)

theorem one_cell {W : World} {b : Nat} {u : Value} {t : TypeId} (h : W.heap[b]? = some (.cells #[u] t (0, 0))) : W.cell? ⟨b, 0, none⟩ = some u ∧ W.frozen? ⟨b, 0, none⟩ = false := by
  simp [World.cell?, World.frozen?, h]

/-- What lies in memory when wrong has returned. -/
theorem after_boxes {w w' : World} {x y z a b : Value} (h : Below (((w.alloc (.cells #[x, y, z] 24)).alloc (.cells #[a] 3)).alloc (.cells #[b] 3)).heap.size (((w.alloc (.cells #[x, y, z] 24)).alloc (.cells #[a] 3)).alloc (.cells #[b] 3)) w') :
    Below w.heap.size w w' ∧ w'.heap[w.heap.size]? = some (.cells #[x, y, z] 24 (0, 0)) ∧ w'.heap[w.heap.size + 1]? = some (.cells #[a] 3 (0, 0)) ∧ w'.heap[w.heap.size + 2]? = some (.cells #[b] 3 (0, 0)) := by
  refine ⟨((((Below.refl w.heap.size w).alloc (Nat.le_refl _) _).alloc (by simp) _).alloc (by simp; omega) _).trans (h.mono (by simp; omega)), blk_below (blk_alloc (blk_alloc (blk_new w _) _) _) h, ?_, ?_⟩
  · have := blk_new (w.alloc (.cells #[x, y, z] 24)) (.cells #[a] 3)
    rw [World.size_alloc] at this
    exact blk_below (blk_alloc this _) h
  · have := blk_new ((w.alloc (.cells #[x, y, z] 24)).alloc (.cells #[a] 3)) (.cells #[b] 3)
    rw [World.size_alloc, World.size_alloc] at this
    exact blk_below this h

set_option maxHeartbeats 4000000 in
set_option maxRecDepth 100000 in
theorem key_Covers.calls (A0_0 : Option Addr) (c0_0 : Nat) (l0_0 : List Int) (a0_1 : Int) (a0_2 : Int) (A1 : Option Addr) (c1 : Nat) (l1 : List (S37)) (a2 : Int) (a3 : Int) (r1 : Bool) (r2 : Int) (w : World) (hr0_0 : Kd.C (Kd.int .i64) w A0_0 l0_0.length l0_0) (hc0_0 : l0_0.length ≤ c0_0) (hr1 : Kd.C k37 w A1 l1.length l1) (hc1 : l1.length ≤ c1) (h : key_Covers.f l0_0 a0_1 a0_2 l1 a2 a3 = some (r1, r2)) :
    Calls Try.prog 17 #[.agg #[.slice A0_0 l0_0.length c0_0, .int .i64 a0_1, .int .i64 a0_2], .slice A1 l1.length c1, .int .i64 a2, .int .i64 a3] w fun e w' => e = .returned (.tuple #[.bool r1, .int .i64 r2]) ∧ Below w.heap.size w w' := by
  have hu24 := Try.underlying24
  have hu29 := Try.underlying29
  have hu39 := Try.underlying39
  unfold key_Covers.f at h
  obtain ⟨e, he, h⟩ := Option.bind_eq_some_iff.mp h
  have HE := Aside0.mk he
  have HR := Aside0.mk hr0_0
  have HR1 := Aside0.mk hr1
  clear he hr0_0 hr1
  refine (callsIn_wide (n := 4)).1 ?_
  refine callsIn_of_wp_marks Try.func17 rfl trivial ?_ rfl
  simp only [Try.ntmps17, List.size_toArray, List.length_cons, List.length_nil, Nat.reduceAdd, Nat.reduceSub, Array.replicate_succ, Array.replicate_zero, List.push_toArray, List.append_toArray, List.nil_append, List.cons_append]
  by_cases c : e = 0
  · subst c
    rw [if_pos rfl] at h
    by_cases k1 : a2 < 0
    · rw [if_pos k1] at h
      have d1 : decide (a2 < 0) = true := decide_eq_true k1
      clear k1
      simp only [Option.some.injEq, Prod.mk.injEq] at h
      obtain ⟨rfl, rfl⟩ := h
      gi_wp2_with (refine ⟨trivial, ?_⟩; refine (callsIn_wide.2 (key_wrong.calls 4096 A0_0 c0_0 l0_0 a0_1 a0_2 A1 c1 l1 _ _ ?hr hc0_0 ?hr1 hc1 HE.out)).mono ?_; (case hr => exact Kd.C_below HR.out ((((Below.refl _ w).alloc (Nat.le_refl _) _).alloc (by simp) _).alloc (by simp; omega) _)); (case hr1 => exact Kd.C_below HR1.out ((((Below.refl _ w).alloc (Nat.le_refl _) _).alloc (by simp) _).alloc (by simp; omega) _)); rintro e w' ⟨rfl, hbw⟩; have HBW := Aside0.mk (after_boxes hbw); have q0 := (blk_cell HBW.out.2.1 0).trans rfl; have q1 := (blk_cell HBW.out.2.1 1).trans rfl; have q2 := (blk_cell HBW.out.2.1 2).trans rfl; have qlt := blk_lt HBW.out.2.1; have q3 := (one_cell HBW.out.2.2.1).1; have q4 := (one_cell HBW.out.2.2.2).1; have qlt3 := blk_lt HBW.out.2.2.1; have qlt4 := blk_lt HBW.out.2.2.2; clear hbw)
      exact ⟨_, results_tmp2 rfl _ _ _, rfl, HBW.out.1⟩
    · rw [if_neg k1] at h
      have d1 : decide (a2 < 0) = false := decide_eq_false k1
      clear k1
      by_cases k2 : a3 < a2
      · rw [if_pos k2] at h
        have d2 : decide (a3 < a2) = true := decide_eq_true k2
        clear k2
        simp only [Option.some.injEq, Prod.mk.injEq] at h
        obtain ⟨rfl, rfl⟩ := h
        gi_wp2_with (refine ⟨trivial, ?_⟩; refine (callsIn_wide.2 (key_wrong.calls 4096 A0_0 c0_0 l0_0 a0_1 a0_2 A1 c1 l1 _ _ ?hr hc0_0 ?hr1 hc1 HE.out)).mono ?_; (case hr => exact Kd.C_below HR.out ((((Below.refl _ w).alloc (Nat.le_refl _) _).alloc (by simp) _).alloc (by simp; omega) _)); (case hr1 => exact Kd.C_below HR1.out ((((Below.refl _ w).alloc (Nat.le_refl _) _).alloc (by simp) _).alloc (by simp; omega) _)); rintro e w' ⟨rfl, hbw⟩; have HBW := Aside0.mk (after_boxes hbw); have q0 := (blk_cell HBW.out.2.1 0).trans rfl; have q1 := (blk_cell HBW.out.2.1 1).trans rfl; have q2 := (blk_cell HBW.out.2.1 2).trans rfl; have qlt := blk_lt HBW.out.2.1; have q3 := (one_cell HBW.out.2.2.1).1; have q4 := (one_cell HBW.out.2.2.2).1; have qlt3 := blk_lt HBW.out.2.2.1; have qlt4 := blk_lt HBW.out.2.2.2; clear hbw)
        exact ⟨_, results_tmp2 rfl _ _ _, rfl, HBW.out.1⟩
      · rw [if_neg k2] at h
        have d2 : decide (a3 < a2) = false := decide_eq_false k2
        clear k2
        by_cases k3 : a3 > 1099511627776
        · rw [if_pos k3] at h
          have d3 : decide (1099511627776 < a3) = true := decide_eq_true k3
          clear k3
          simp only [Option.some.injEq, Prod.mk.injEq] at h
          obtain ⟨rfl, rfl⟩ := h
          gi_wp2_with (refine ⟨trivial, ?_⟩; refine (callsIn_wide.2 (key_wrong.calls 4096 A0_0 c0_0 l0_0 a0_1 a0_2 A1 c1 l1 _ _ ?hr hc0_0 ?hr1 hc1 HE.out)).mono ?_; (case hr => exact Kd.C_below HR.out ((((Below.refl _ w).alloc (Nat.le_refl _) _).alloc (by simp) _).alloc (by simp; omega) _)); (case hr1 => exact Kd.C_below HR1.out ((((Below.refl _ w).alloc (Nat.le_refl _) _).alloc (by simp) _).alloc (by simp; omega) _)); rintro e w' ⟨rfl, hbw⟩; have HBW := Aside0.mk (after_boxes hbw); have q0 := (blk_cell HBW.out.2.1 0).trans rfl; have q1 := (blk_cell HBW.out.2.1 1).trans rfl; have q2 := (blk_cell HBW.out.2.1 2).trans rfl; have qlt := blk_lt HBW.out.2.1; have q3 := (one_cell HBW.out.2.2.1).1; have q4 := (one_cell HBW.out.2.2.2).1; have qlt3 := blk_lt HBW.out.2.2.1; have qlt4 := blk_lt HBW.out.2.2.2; clear hbw)
          exact ⟨_, results_tmp2 rfl _ _ _, rfl, HBW.out.1⟩
        · rw [if_neg k3] at h
          have d3 : decide (1099511627776 < a3) = false := decide_eq_false k3
          clear k3
          split at h
          case isFalse => cases h
          case isTrue hlen =>
          obtain ⟨res, hres, h⟩ := Option.map_eq_some_iff.mp h
          simp only [Prod.mk.injEq] at h
          obtain ⟨rfl, rfl⟩ := h
          have HS := Aside0.mk hres
          have HL := Aside0.mk hlen
          clear hres hlen
          gi_wp2_with (first | (refine ⟨trivial, ?_⟩; refine (callsIn_wide.2 (key_wrong.calls 4096 A0_0 c0_0 l0_0 a0_1 a0_2 A1 c1 l1 _ _ ?hr hc0_0 ?hr1 hc1 HE.out)).mono ?_; (case hr => exact Kd.C_below HR.out ((((Below.refl _ w).alloc (Nat.le_refl _) _).alloc (by simp) _).alloc (by simp; omega) _)); (case hr1 => exact Kd.C_below HR1.out ((((Below.refl _ w).alloc (Nat.le_refl _) _).alloc (by simp) _).alloc (by simp; omega) _)); rintro e w' ⟨rfl, hbw⟩; have HBW := Aside0.mk (after_boxes hbw); have q0 := (blk_cell HBW.out.2.1 0).trans rfl; have q1 := (blk_cell HBW.out.2.1 1).trans rfl; have q2 := (blk_cell HBW.out.2.1 2).trans rfl; have qlt := blk_lt HBW.out.2.1; have q3 := (one_cell HBW.out.2.2.1).1; have q4 := (one_cell HBW.out.2.2.2).1; have qlt3 := blk_lt HBW.out.2.2.1; have qlt4 := blk_lt HBW.out.2.2.2; clear hbw) | (refine ⟨trivial, ?_⟩; refine (stretches_in 3 _ _ _ _ _ _ _).mono ?_; rintro e w3 ⟨rfl, rfl⟩))
          obtain ⟨Wl, hWl⟩ : ∃ Wl, (((w'.alloc (Obj.cells #[Value.bool (a2 == a3)] 4)).alloc (Obj.cells #[Value.slice A0_0 l0_0.length c0_0, Value.int IntKind.i64 a0_1, Value.int IntKind.i64 a0_2] 24)).alloc (Obj.cells #[Value.slice A1 l1.length c1] 29)) = Wl := ⟨_, rfl⟩
          have hzl : Wl.heap.size = w'.heap.size + 3 := by rw [← hWl]; simp
          obtain ⟨hb0, hk0, hf0, ht0⟩ := HBW.out
          have hww : w.heap.size ≤ w'.heap.size := hb0.size
          have hl1 := blk_lt hf0
          have hl2 := blk_lt ht0
          have hbw : Below w'.heap.size w' Wl := by
            rw [← hWl]; exact (((Below.refl _ w').alloc (Nat.le_refl _) _).alloc (by simp) _).alloc (by simp; omega) _
          have hB : Wl.heap[w'.heap.size]? = some (.cells #[.bool (covered a2 a3 [])] 4 (0, 0)) := by
            rw [← hWl]; exact blk_alloc (blk_alloc (blk_new w' _) _) _
          have hKB : Wl.heap[w'.heap.size + 1]? = some (.cells #[.slice A0_0 l0_0.length c0_0, .int .i64 a0_1, .int .i64 a0_2] 24 (0, 0)) := by
            rw [← hWl]; have := blk_new (w'.alloc (Obj.cells #[Value.bool (a2 == a3)] 4)) (Obj.cells #[Value.slice A0_0 l0_0.length c0_0, Value.int IntKind.i64 a0_1, Value.int IntKind.i64 a0_2] 24); rw [World.size_alloc] at this; exact blk_alloc this _
          have hHB : Wl.heap[w'.heap.size + 1 + 1]? = some (.cells #[.slice A1 l1.length c1] 29 (0, 0)) := by
            rw [← hWl]; have := blk_new ((w'.alloc (Obj.cells #[Value.bool (a2 == a3)] 4)).alloc (Obj.cells #[Value.slice A0_0 l0_0.length c0_0, Value.int IntKind.i64 a0_1, Value.int IntKind.i64 a0_2] 24)) (Obj.cells #[Value.slice A1 l1.length c1] 29); rw [World.size_alloc, World.size_alloc] at this; exact this
          have HB0 := Aside0.mk (hb0.trans (hbw.mono hww))
          have hF := (hbw.block _ hl1).trans hf0
          have hT := (hbw.block _ hl2).trans ht0
          rw [hWl]
          refine wpIn_rangeFunc_mine (by decide) (gf := 35) (lb := #[.pointer (some ⟨w'.heap.size + 1 + 1, 0, none⟩), .pointer (some ⟨w'.heap.size + 1, 0, none⟩)]) rfl (enters_of Try.func35 (by kernel_rfl) rfl)
            (fun x : S39 => .agg #[.int .i64 x.f0, .int .i64 x.f1]) (fun k => k < w.heap.size ∨ k = w'.heap.size + 1) (fun k h => by omega) l1.length res
            (fun W hW hz => str_iter 3 _ _ A0_0 A1 c0_0 c1 l0_0 a0_1 a0_2 l1 w W ((hW.block _ (by omega)).trans hHB) ((hW.block _ (by omega)).trans hKB) HR.out hc0_0 HR1.out hc1 HL.out (HB0.out.trans (hW.mono (by omega))) res HS.out)
            (fun O pre W => W.heap[w'.heap.size]? = some (.cells #[.bool (covered a2 a3 pre)] 4 (0, 0)) ∧ W.heap[w.heap.size + 1]? = some (.cells #[.int .i64 a2] 3 (0, 0)) ∧ W.heap[w.heap.size + 2]? = some (.cells #[.int .i64 a3] 3 (0, 0)) ∧ Below w.heap.size w W)
            ?inv ⟨hB, hF, hT, HB0.out⟩ ?round ?done
          case inv =>
            rintro O O' pre A B ⟨hv, hf, ht', hb⟩ hO ht hup hnew
            refine ⟨(ht.block _ (blk_lt hv) ?_).trans hv, (ht.block _ (blk_lt hf) ?_).trans hf, (ht.block _ (blk_lt ht') ?_).trans ht', hb.trans (ht.below hb.size ?_)⟩
            · rintro (h | h)
              · have := hO _ h; omega
              · omega
            · rintro (h | h)
              · have := hO _ h; omega
              · omega
            · rintro (h | h)
              · have := hO _ h; omega
              · omega
            · rintro k hk (h | h)
              · have := hO _ h; omega
              · omega
          case round =>
            rintro O pre x W ⟨hv, hf, ht', hb⟩ hlen hO hz
            gi_wp2
            refine ⟨Below.heap_alloc _ _ _ (by omega), Below.heap_alloc _ _ _ (by omega), fun W2 ht2 hs2 => ?_⟩
            rw [World.size_alloc] at hs2
            have hBl : w'.heap.size < W.heap.size := blk_lt hv
            have hv2 : W2.heap[w'.heap.size]? = some (.cells #[.bool (covered a2 a3 pre)] 4 (0, 0)) := (ht2.block _ (by simp; omega) (by omega)).trans (blk_alloc hv _)
            have hf2 : W2.heap[w.heap.size + 1]? = some (.cells #[.int .i64 a2] 3 (0, 0)) := (ht2.block _ (by simp; omega) (by omega)).trans (blk_alloc hf _)
            have hg2 : W2.heap[w.heap.size + 2]? = some (.cells #[.int .i64 a3] 3 (0, 0)) := (ht2.block _ (by simp; omega) (by omega)).trans (blk_alloc ht' _)
            have hx2 : W2.heap[W.heap.size]? = some (.cells #[.int .i64 x.f0, .int .i64 x.f1] 39 (0, 0)) := (ht2.block _ (by simp) (by omega)).trans (blk_new W _)
            have hT2 : Turned (fun k => ¬ ((k < w.heap.size ∨ k = w'.heap.size + 1) ∨ O k)) W W2 :=
              (Turned.alloc W _).trans (ht2.mono fun k h => by
                subst h
                rintro ((h | h) | h)
                · omega
                · omega
                · have := hO _ h; omega)
            obtain ⟨y0, y00⟩ := one_cell hv2
            obtain ⟨y1, y2, _, _⟩ := two_cells hx2
            have y3 := (one_cell hf2).1
            have y4 := (one_cell hg2).1
            have HT2 := Aside0.mk hT2
            have HV2 := Aside0.mk hv2
            have HF2 := Aside0.mk hf2
            have HG2 := Aside0.mk hg2
            have hb3 := Aside0.mk hb
            have fin : ∀ u, u = covered a2 a3 (pre ++ [x]) → minePost Wl.heap.size (Wl.heap.size + 1) (fun k => k < w.heap.size ∨ k = w'.heap.size + 1) O (fun O pre W => W.heap[w'.heap.size]? = some (.cells #[.bool (covered a2 a3 pre)] 4 (0, 0)) ∧ W.heap[w.heap.size + 1]? = some (.cells #[.int .i64 a2] 3 (0, 0)) ∧ W.heap[w.heap.size + 2]? = some (.cells #[.int .i64 a3] 3 (0, 0)) ∧ Below w.heap.size w W) (pre ++ [x]) W W2 .normal ⟨#[], []⟩ (W2.setCell ⟨w'.heap.size, 0, none⟩ (.bool u)) := by
              rintro u rfl
              have hT3 := HT2.out.trans ((Turned.setCell W2 ⟨w'.heap.size, 0, none⟩ (.bool (covered a2 a3 (pre ++ [x])))).mono fun k hk => by
                have hk' : k = w'.heap.size := hk
                rintro ((h | h) | h)
                · omega
                · omega
                · have := hO _ h; omega)
              refine ⟨Below.heap_setCell _ _ _ _ (by show Wl.heap.size + 1 ≠ w'.heap.size; omega), Below.heap_setCell _ _ _ _ (by show Wl.heap.size ≠ w'.heap.size; omega), ⟨blk_put HV2.out 0 _ rfl, blk_far HF2.out (by show w.heap.size + 1 ≠ w'.heap.size; omega) _, blk_far HG2.out (by show w.heap.size + 2 ≠ w'.heap.size; omega) _, hb3.out.trans (hT3.below hb3.out.size (fun k hk h => h (.inl (.inl hk))))⟩, hT3⟩
            rw [covered_snoc] at fin
            have FIN := Aside0.mk fin
            clear fin hT2 hv2 hx2 ht2 hf2 hg2 hb hv hf ht' hs2
            cases h1 : covered a2 a3 pre with
            | true =>
              rw [h1] at y0
              gi_wp2
              exact FIN.out true (by rw [h1]; rfl)
            | false =>
              rw [h1] at y0
              cases h2 : decide (x.f0 ≤ a2) with
              | false =>
                gi_wp2
                exact FIN.out false (by rw [h1, h2]; rfl)
              | true =>
                cases h3 : decide (a3 ≤ x.f1) with
                | false =>
                  gi_wp2
                  exact FIN.out false (by rw [h1, h2, h3]; rfl)
                | true =>
                  gi_wp2
                  exact FIN.out true (by rw [h1, h2, h3]; rfl)
          case done =>
            rintro O W ⟨hv, hf, ht', hb⟩ hO hD
            have hvc := (one_cell hv).1
            gi_wp2
            refine ⟨by simp, .inl ⟨_, _, rfl, run_takeDeferred hD, ?_⟩⟩
            exact ⟨_, results_tmp2 rfl _ _ _, rfl, hb.trans ((Turned.putObj W Wl.heap.size _).below hb.size (fun k hk h => by omega))⟩
  · rw [if_neg c] at h
    have cb : (e != 0) = true := bne_iff_ne.mpr c
    clear c
    simp only [Option.some.injEq, Prod.mk.injEq] at h
    obtain ⟨rfl, rfl⟩ := h
    gi_wp2_with (refine ⟨trivial, ?_⟩; refine (callsIn_wide.2 (key_wrong.calls 4096 A0_0 c0_0 l0_0 a0_1 a0_2 A1 c1 l1 _ _ ?hr hc0_0 ?hr1 hc1 HE.out)).mono ?_; (case hr => exact Kd.C_below HR.out ((((Below.refl _ w).alloc (Nat.le_refl _) _).alloc (by simp) _).alloc (by simp; omega) _)); (case hr1 => exact Kd.C_below HR1.out ((((Below.refl _ w).alloc (Nat.le_refl _) _).alloc (by simp) _).alloc (by simp; omega) _)); rintro e w' ⟨rfl, hbw⟩; have HBW := Aside0.mk (after_boxes hbw); have q0 := (blk_cell HBW.out.2.1 0).trans rfl; have q1 := (blk_cell HBW.out.2.1 1).trans rfl; have q2 := (blk_cell HBW.out.2.1 2).trans rfl; have qlt := blk_lt HBW.out.2.1; have q3 := (one_cell HBW.out.2.2.1).1; have q4 := (one_cell HBW.out.2.2.2).1; have qlt3 := blk_lt HBW.out.2.2.1; have qlt4 := blk_lt HBW.out.2.2.2; clear hbw)
    exact ⟨_, results_tmp2 rfl _ _ _, rfl, HBW.out.1⟩

end Go.Proofs.Ytlcghmfkgblheaa.F
