/- key.Stretches: 'for s := range stretches(k, history) { l = append(l, s) }': by hand. -/
import Derived.Test.YtlcghmfkgblheaaXIter
namespace Go.Proofs.Ytlcghmfkgblheaa.F
open Go.RowKit Go.Shelf Go.Proofs.YtlcghmfkgblheaaW.PrintWords Go.Proofs.YtlcghmfkgblheaaW.PrintLast Go.Proofs.YtlcghmfkgblheaaW.PrintMore
attribute [local go_sem] Oper.semAt_some
set_option linter.unusedVariables false
set_option linter.unusedSimpArgs false

set_option maxHeartbeats 1000000 in
set_option maxRecDepth 100000 in
/-- key.stretches: its two parameters are boxed; the function value captures the boxes. -/
theorem stretches_in (n : Nat) (x y z : Value) (A1 : Option Addr) (len c1 : Nat) (w : World) :
    CallsIn Fence.wide n Try.prog 27 #[.agg #[x, y, z], .slice A1 len c1] w fun e w' =>
      e = .returned (.func (.func 35) #[] #[.pointer (some ⟨w.heap.size + 1, 0, none⟩), .pointer (some ⟨w.heap.size, 0, none⟩)]) ∧ w' = (w.alloc (.cells #[x, y, z] 24)).alloc (.cells #[.slice A1 len c1] 29) := by
  have hu24 := Try.underlying24
  have hu29 := Try.underlying29
  refine callsIn_of_wp Try.func27 rfl trivial ?_ rfl
  simp only [Try.ntmps27, List.size_toArray, List.length_cons, List.length_nil, Nat.reduceAdd, Nat.reduceSub, Array.replicate_succ, Array.replicate_zero, List.push_toArray, List.append_toArray, List.nil_append, List.cons_append]
  gi_wp2
  go_ret
  exact ⟨rfl, rfl⟩

/-- append(l, s) in a fenced walk, where l's row and what it leads to satisfy ok. -/
theorem wpListIn_R_append {α : Type} {F : Fence} {n : Nat} {P : Program} (d : Kd α) {W : World} {ops : Array Oper} {rest : List Oper} {o : Oper} {a : Act} {Q : Exit → Act → World → Prop}
    (base : Nat) (hgd : o.guard = none) (s x : Operand) (t e : TypeId) (z : Value) (bytes : Nat)
    (ho : o.op = .call { callee := .builtin .append, args := #[s, x], argTypes := #[t, t] })
    (ht : P.underlying t = some (.slice e)) (hinfo : (P.info? e).map (fun i => (i.zero, i.size, i.bytes)) = some (some z, d.sz, bytes)) (hz : z.cells.size = d.sz) (hs0 : 0 < d.sz) (hb0 : 0 < bytes)
    (v : Value) (xs : List α) (p : α) (cs : List Value) (ok okp : Nat → Prop) (hs : a.eval s = v) (hx : a.eval x = .slice (some ⟨W.heap.size, 0, none⟩) 1 1) (hp : d.M W base okp p cs) (hokp : ∀ k, okp k → ok k ∧ some k ≠ v.ownBlock) (hfresh : ∀ k, W.heap.size ≤ k → ok k)
    (HO : d.R e W base ok v xs) (hbase : base ≤ W.heap.size) (hl : (xs.length + 1) * bytes ≤ 140737488355328)
    (h : ∀ v1 w1, d.R e w1 base ok v1 (xs ++ [p]) → W.grownBy w1 v.ownBlock → wpListIn F n P ops Q rest (a.put o.dst v1) w1) :
    wpListIn F n P ops Q (o :: rest) a (W.alloc (.cells cs.toArray e)) := by
  obtain ⟨h0, inner, hown, hr⟩ := HO
  obtain ⟨i0, hi, hzz⟩ := Option.map_eq_some_iff.1 hinfo
  simp only [Prod.mk.injEq] at hzz
  obtain ⟨hz0, hz1, hz2⟩ := hzz
  have hlen : xs.length + 1 ≤ 140737488355328 := Nat.le_trans (Nat.le_mul_of_pos_right _ hb0) hl
  have hys := d.K_len (d.K_of_M hp)
  refine wpListIn_plain hgd fun K hK' => ?_
  obtain ⟨v', w', hrun, hown1, hg, _, hat⟩ := run_append_own_at (P := P) (W.alloc (.cells cs.toArray e)) base t o.type e i0 z d.sz bytes ht hi hz0 hz1 hz2 hz hs0 v xs.length inner (hown.alloc _) ⟨W.heap.size, 0, none⟩ 1 1 cs (by rw [hys]; simp)
    (by simpa using World.news_of_block (cs := cs.toArray) (t := e) (fr := (0, 0)) (heap_alloc_new W (.cells cs.toArray e))) (d.K_one (d.K_of_M hp)) (by simp only [maxLen]; omega) hl (by simp; omega)
  unfold Oper.wpIn
  refine ⟨?_, ?_⟩
  · simp [Oper.about, ho, resolve, Target.leads, Sem.run_pure]
  · rw [Oper.semAt_plain F _ _ (by rw [ho]; intro c hc'; cases hc')]
    simp [execOp, ho, resolve, invoke, builtin, hs, hx, hrun, Result.andThen]
    refine hK' _ _ (h v' w' (Kd.R_appended h0 hr hp hokp hfresh hown1 (World.grownBy.trans (World.grownBy_alloc W _ _) hg) ?_) (World.grownBy.trans (World.grownBy_alloc W _ _) hg))
    rcases hat with hat | hat
    · exact .inl hat
    · exact .inr ⟨_, hat, by simp⟩


def key_Stretches.f (l0_0 : List Int) (a0_1 : Int) (a0_2 : Int) (l1 : List (S37)) : Option ((List (S39)) × Int) :=
  (key_wrong.f 4096 l0_0 a0_1 a0_2 l1).bind fun e => if e = 0 then (if l1.length ≤ 2000 then (strRun l0_0 a0_1 a0_2 l1 0 0 []).map fun l => (l, 0) else none) else some ([], e)

set_option maxHeartbeats 4000000 in
set_option maxRecDepth 100000 in
theorem key_Stretches.calls (A0_0 : Option Addr) (c0_0 : Nat) (l0_0 : List Int) (a0_1 : Int) (a0_2 : Int) (A1 : Option Addr) (c1 : Nat) (l1 : List (S37)) (r1 : List (S39)) (r2 : Int) (w : World) (hr0_0 : Kd.C (Kd.int .i64) w A0_0 l0_0.length l0_0) (hc0_0 : l0_0.length ≤ c0_0) (hr1 : Kd.C k37 w A1 l1.length l1) (hc1 : l1.length ≤ c1) (h : key_Stretches.f l0_0 a0_1 a0_2 l1 = some (r1, r2)) :
    Calls Try.prog 10 #[.agg #[.slice A0_0 l0_0.length c0_0, .int .i64 a0_1, .int .i64 a0_2], .slice A1 l1.length c1] w fun e w' => ∃ v0_ : Value, e = .returned (.tuple #[v0_, .int .i64 r2]) ∧ Kd.R k39 39 w' w.heap.size (fun _ => True) v0_ r1 ∧ Below w.heap.size w w' := by
  have hu24 := Try.underlying24
  have hu29 := Try.underlying29
  have hu31 := Try.underlying31
  have hu39 := Try.underlying39
  unfold key_Stretches.f at h
  obtain ⟨e, he, h⟩ := Option.bind_eq_some_iff.mp h
  have HE := Aside0.mk he
  clear he
  refine (callsIn_wide (n := 4)).1 ?_
  refine callsIn_of_wp_marks Try.func10 rfl trivial ?_ rfl
  simp only [Try.ntmps10, List.size_toArray, List.length_cons, List.length_nil, Nat.reduceAdd, Nat.reduceSub, Array.replicate_succ, Array.replicate_zero, List.push_toArray, List.append_toArray, List.nil_append, List.cons_append]
  by_cases c : e = 0
  · subst c
    rw [if_pos rfl] at h
    split at h
    case isFalse => cases h
    case isTrue hlen =>
    obtain ⟨res, hres, h⟩ := Option.map_eq_some_iff.mp h
    simp only [Prod.mk.injEq] at h
    obtain ⟨rfl, rfl⟩ := h
    have HS := Aside0.mk hres
    have HL := Aside0.mk hlen
    have HR := Aside0.mk hr0_0
    have HR1 := Aside0.mk hr1
    clear hres hlen hr0_0 hr1
    gi_wp2_with (first | (refine ⟨trivial, ?_⟩; refine (callsIn_wide.2 (key_wrong.calls 4096 A0_0 c0_0 l0_0 a0_1 a0_2 A1 c1 l1 0 _ ?hr hc0_0 ?hr1 hc1 HE.out)).mono ?_; (case hr => exact Kd.C_below HR.out ((Below.refl _ w).alloc (Nat.le_refl _) _)); (case hr1 => exact Kd.C_below HR1.out ((Below.refl _ w).alloc (Nat.le_refl _) _)); rintro e w' ⟨rfl, hbw⟩; have HBW' := Aside0.mk (after_alloc hbw); have HKB := Aside0.mk (blk_below (blk_new w _) hbw); have q0 := (blk_cell HKB.out 0).trans rfl; have q1 := (blk_cell HKB.out 1).trans rfl; have q2 := (blk_cell HKB.out 2).trans rfl; have qlt := blk_lt HKB.out; clear hbw) | (refine ⟨trivial, ?_⟩; refine (stretches_in 3 _ _ _ _ _ _ _).mono ?_; rintro e w3 ⟨rfl, rfl⟩))
    obtain ⟨Wl, hWl⟩ : ∃ Wl, (((w'.alloc (Obj.cells #[Value.slice none 0 0] 31)).alloc (Obj.cells #[Value.slice A0_0 l0_0.length c0_0, Value.int IntKind.i64 a0_1, Value.int IntKind.i64 a0_2] 24)).alloc (Obj.cells #[Value.slice A1 l1.length c1] 29)) = Wl := ⟨_, rfl⟩
    have hzl : Wl.heap.size = w'.heap.size + 3 := by rw [← hWl]; simp
    have hww : w.heap.size ≤ w'.heap.size := HBW'.out.size
    have hbw : Below w'.heap.size w' Wl := by
      rw [← hWl]; exact (((Below.refl _ w').alloc (Nat.le_refl _) _).alloc (by simp) _).alloc (by simp; omega) _
    have hB : Wl.heap[w'.heap.size]? = some (.cells #[.slice none 0 0] 31 (0, 0)) := by
      rw [← hWl]; exact blk_alloc (blk_alloc (blk_new w' _) _) _
    have hKB : Wl.heap[w'.heap.size + 1]? = some (.cells #[.slice A0_0 l0_0.length c0_0, .int .i64 a0_1, .int .i64 a0_2] 24 (0, 0)) := by
      rw [← hWl]; have := blk_new (w'.alloc (Obj.cells #[Value.slice none 0 0] 31)) (Obj.cells #[Value.slice A0_0 l0_0.length c0_0, Value.int IntKind.i64 a0_1, Value.int IntKind.i64 a0_2] 24); rw [World.size_alloc] at this; exact blk_alloc this _
    have hHB : Wl.heap[w'.heap.size + 1 + 1]? = some (.cells #[.slice A1 l1.length c1] 29 (0, 0)) := by
      rw [← hWl]; have := blk_new ((w'.alloc (Obj.cells #[Value.slice none 0 0] 31)).alloc (Obj.cells #[Value.slice A0_0 l0_0.length c0_0, Value.int IntKind.i64 a0_1, Value.int IntKind.i64 a0_2] 24)) (Obj.cells #[Value.slice A1 l1.length c1] 29); rw [World.size_alloc, World.size_alloc] at this; exact this
    have HB0 := Aside0.mk (HBW'.out.trans (hbw.mono hww))
    rw [hWl]
    refine wpIn_rangeFunc_mine (by decide) (gf := 35) (lb := #[.pointer (some ⟨w'.heap.size + 1 + 1, 0, none⟩), .pointer (some ⟨w'.heap.size + 1, 0, none⟩)]) rfl (enters_of Try.func35 (by kernel_rfl) rfl)
      (fun x : S39 => .agg #[.int .i64 x.f0, .int .i64 x.f1]) (fun k => k < w.heap.size ∨ k = w'.heap.size + 1) (fun k h => by omega) l1.length res
      (fun W hW hz => str_iter 3 _ _ A0_0 A1 c0_0 c1 l0_0 a0_1 a0_2 l1 w W ((hW.block _ (by omega)).trans hHB) ((hW.block _ (by omega)).trans hKB) HR.out hc0_0 HR1.out hc1 HL.out (HB0.out.trans (hW.mono (by omega))) res HS.out)
      (fun O pre W => ∃ v, W.heap[w'.heap.size]? = some (.cells #[v] 31 (0, 0)) ∧ Kd.R k39 39 W w.heap.size (fun k => ¬ O k ∧ Wl.heap.size + 2 ≤ k) v pre ∧ Below w.heap.size w W)
      ?inv ⟨_, hB, Kd.R_nil _ _ _ _ _, HB0.out⟩ ?round ?done
    case inv =>
      rintro O O' pre A B ⟨v, hv, hr, hb⟩ hO ht hup hnew
      refine ⟨v, (ht.block _ (blk_lt hv) ?_).trans hv, ?_, hb.trans (ht.below hb.size ?_)⟩
      · rintro (h | h)
        · have := hO _ h; omega
        · omega
      · refine Kd.R_mono (Kd.R_move (Kd.R_bound hr) (fun k hk => ht.block k hk.2.2.1 ?_)) (fun k hk => ⟨fun h => ?_, hk.1.2⟩)
        · rintro (h | h)
          · exact hk.1.1 h
          · have := hk.1.2; omega
        · rcases hnew k h with h | h
          · exact hk.1.1 h
          · have := hk.2.2.1; omega
      · rintro k hk (h | h)
        · have := hO _ h; omega
        · omega
    case round =>
      rintro O pre x W ⟨v, hv, hr, hb⟩ hlen hO hz
      have hvc := (blk_cell hv 0).trans rfl
      gi_wp2
      refine ⟨Below.heap_alloc _ _ _ (by omega), Below.heap_alloc _ _ _ (by omega), fun W2 ht2 hs2 => ?_⟩
      rw [World.size_alloc] at hs2
      have hBl : w'.heap.size < W.heap.size := blk_lt hv
      have hv2 : W2.heap[w'.heap.size]? = some (.cells #[v] 31 (0, 0)) := (ht2.block _ (by simp; omega) (by omega)).trans (blk_alloc hv _)
      have hx2 : W2.heap[W.heap.size]? = some (.cells #[.int .i64 x.f0, .int .i64 x.f1] 39 (0, 0)) := (ht2.block _ (by simp) (by omega)).trans (blk_new W _)
      have hr2 : Kd.R k39 39 W2 w.heap.size (fun k => ¬ O k ∧ Wl.heap.size + 2 ≤ k) v pre :=
        Kd.R_mono (Kd.R_move (Kd.R_bound hr) (fun k hk => (ht2.block k (by have := hk.2.2.1; simp; omega) (by have := hk.1.2; omega)).trans (Below.heap_alloc _ _ _ hk.2.2.1))) (fun k hk => hk.1)
      have hT2 : Turned (fun k => ¬ ((k < w.heap.size ∨ k = w'.heap.size + 1) ∨ O k)) W W2 :=
        (Turned.alloc W _).trans (ht2.mono fun k h => by
          subst h
          rintro ((h | h) | h)
          · omega
          · omega
          · have := hO _ h; omega)
      have hb2 : Below w.heap.size w W2 := hb.trans (hT2.below hb.size (fun k hk h => h (.inl (.inl hk))))
      have y0 := (blk_cell hv2 0).trans rfl
      have y1 := (blk_cell hx2 0).trans rfl
      have y2 := (blk_cell hx2 1).trans rfl
      have HR2 := Aside0.mk hr2
      have HB2 := Aside0.mk hb2
      have HT2 := Aside0.mk hT2
      have HV2 := Aside0.mk hv2
      have hOz : ∀ k, W2.heap.size ≤ k → ¬ O k ∧ Wl.heap.size + 2 ≤ k := fun k hk => ⟨fun h => by have := hO k h; omega, by omega⟩
      have hz2 : Wl.heap.size + 2 ≤ W2.heap.size := by omega
      clear hr2 hb2 hT2 hv2 hx2 ht2 hr hb hv hvc hs2
      gi_wp2_with (gi_at_builtin; refine wpListIn_R_append k39 w.heap.size rfl _ _ 31 39 (.agg #[.int .i64 0, .int .i64 0]) 16 rfl Try.underlying31 info39 rfl (by decide) (by decide) v pre x [.int .i64 x.f0, .int .i64 x.f1] (fun k => ¬ O k ∧ Wl.heap.size + 2 ≤ k) (fun _ => False) rfl rfl ?hp (fun _ h => h.elim) hOz HR2.out (by have := HB2.out.size; omega) (by have := HL.out; omega) ?_; (case hp => exact k39_mkM _ _ _ x); intro v1 w1 hR1 hg1; obtain ⟨A9, c9, e9⟩ := Kd.R_slice hR1; subst e9; have HR3 := Aside0.mk hR1; have HG := Aside0.mk hg1; have hrow : ∀ k, some k = v.ownBlock → ¬ O k ∧ Wl.heap.size + 2 ≤ k := fun k hk => HR2.out.1 k hk.symm; have hv3 := Aside0.mk ((HG.out.block _ (by omega) (fun h => by have := (hrow _ h).2; omega)).trans HV2.out); have y3 := (blk_cell hv3.out 0).trans rfl; have y4 := blk_frozen hv3.out 0; clear hR1 hg1)
      have hR3 := HR3.out
      simp only [List.length_append, List.length_cons, List.length_nil, Nat.zero_add] at hR3
      refine ⟨?_, ?_, ⟨_, blk_put hv3.out 0 _ rfl, Kd.R_move hR3 (fun k hk => Below.heap_setCell _ _ _ _ (by have := hk.2; show k ≠ w'.heap.size; omega)), ?_⟩, ?_⟩
      · exact (Below.heap_setCell _ _ _ _ (by show Wl.heap.size + 1 ≠ w'.heap.size; omega)).trans (HG.out.block _ (by omega) (fun h => by have := (hrow _ h).2; omega))
      · exact (Below.heap_setCell _ _ _ _ (by show Wl.heap.size ≠ w'.heap.size; omega)).trans (HG.out.block _ (by omega) (fun h => by have := (hrow _ h).2; omega))
      · refine ((HB2.out.grown HG.out HB2.out.size fun k hk => ?_)).setCell (p := ⟨w'.heap.size, 0, none⟩) hww _
        have := (hrow k hk.symm).2; omega
      · refine (HT2.out.trans ((Turned.of_grown HG.out).mono fun k hk => ?_)).trans ((Turned.setCell _ _ _).mono fun k hk => ?_)
        · have := hrow k hk
          rintro ((h | h) | h)
          · omega
          · omega
          · exact this.1 h
        · have hk' : k = w'.heap.size := hk
          rintro ((h | h) | h)
          · omega
          · omega
          · have := hO _ h; omega
    case done =>
      rintro O W ⟨v, hv, hr, hb⟩ hO hD
      have hvc := (blk_cell hv 0).trans rfl
      obtain ⟨A9, c9, e9⟩ := Kd.R_slice hr
      subst e9
      gi_wp2
      refine ⟨by simp, .inl ⟨_, _, rfl, run_takeDeferred hD, ?_⟩⟩
      refine ⟨_, results_tmp2 rfl _ _ _, _, rfl, Kd.R_mono (Kd.R_move hr (fun k hk => World.putObj_heap_other (by have := hk.2; omega))) (fun _ _ => trivial), hb.trans ((Turned.putObj W Wl.heap.size _).below hb.size (fun k hk h => by omega))⟩
  · rw [if_neg c] at h
    have cb : (e != 0) = true := bne_iff_ne.mpr c
    clear c
    simp only [Option.some.injEq, Prod.mk.injEq] at h
    obtain ⟨rfl, rfl⟩ := h
    have HR := Aside0.mk hr0_0
    have HR1 := Aside0.mk hr1
    clear hr0_0 hr1
    gi_wp2_with (refine ⟨trivial, ?_⟩; refine (callsIn_wide.2 (key_wrong.calls 4096 A0_0 c0_0 l0_0 a0_1 a0_2 A1 c1 l1 e _ ?hr hc0_0 ?hr1 hc1 HE.out)).mono ?_; (case hr => exact Kd.C_below HR.out ((Below.refl _ w).alloc (Nat.le_refl _) _)); (case hr1 => exact Kd.C_below HR1.out ((Below.refl _ w).alloc (Nat.le_refl _) _)); rintro e w' ⟨rfl, hbw⟩; have HBW' := Aside0.mk (after_alloc hbw); clear hbw)
    exact ⟨_, results_tmp2 rfl _ _ _, _, rfl, Kd.R_nil _ _ _ _ _, HBW'.out⟩

end Go.Proofs.Ytlcghmfkgblheaa.F
