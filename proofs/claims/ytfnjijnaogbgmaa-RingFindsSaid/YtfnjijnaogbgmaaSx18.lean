/- A reckoner of Go code over told values: one step of code. -/
import Derived.Test.YtfnjijnaogbgmaaSx17
namespace Go.Sx
open Go Go.RowKit
set_option linter.unusedVariables false
set_option linter.unusedSimpArgs false
section
variable {G : Gl} {c : Cfg}
/-- One step. -/
theorem step_ok (hE : EnvOk G.P G.E) {c c' : Cfg} {o : Obs} (hs : step G.E c = some (c', o)) (ho : allO o) (h : AM G c') : AM G c := by
  obtain ⟨fr, hp, k⟩ := c
  refine ⟨fun S a w hc => ?_⟩
  simp only at hc ⊢
  unfold step at hs
  simp only at hs
  split at hs
  · cases hs
  · simp only [Option.some.injEq, Prod.mk.injEq] at hs
    obtain ⟨rfl, rfl⟩ := hs
    simpa only [wpK] using h.go S a w hc
  · rename_i b k
    simp only [Option.some.injEq, Prod.mk.injEq] at hs
    obtain ⟨rfl, rfl⟩ := hs
    have := h.go S a w hc
    simp only [wpK] at this ⊢
    refine wp_loop_unroll G.fenced (fun l a w => wpK_goto (G.fin_goto l) _ a w) (fun a w => wpK_out G.fin_out _ a w) (wpIn_mono this ?_)
    intro e a w hq
    cases e <;> exact hq
  · simp only [Option.some.injEq, Prod.mk.injEq] at hs
    obtain ⟨rfl, rfl⟩ := hs
    simp only [wpK, wpListIn]
    exact h.go S a w hc
  · rename_i R op rest k
    simp only [wpK]
    unfold wpListIn
    split at hs
    · rename_i hw
      rw [if_pos (wantedA_yes hc.fr hw)]
      split at hs
      · rename_i r hr
        simp only [Option.some.injEq, Prod.mk.injEq] at hs
        obtain ⟨rfl, rfl⟩ := hs
        rw [allO_append] at ho
        have fin : ∀ S' v' w', CfgR G.W G.S0 S' (putO fr op.dst r.v) (hsets hp r.up) (a.put op.dst v') w' → wpListIn G.Fe 0 G.P R.toArray (wpK G.Fe G.P G.Fin k) rest (a.put op.dst v') w' := by
          intro S' v' w' hc'
          have := h.go S' _ w' hc'
          simpa only [wpK] using this
        have old : step1 G.E (ev _) hp hp.length op = some r → op.wpIn G.Fe 0 G.P a w (wpListIn G.Fe 0 G.P R.toArray (wpK G.Fe G.P G.Fin k) rest) (wpK G.Fe G.P G.Fin k) := fun hr =>
          op_ok hE hc (strips_ok hc.fr rfl ho.1) hr ho.2 fun S' v w' hc' => fin S' v w' hc'
        unfold stepD at hr
        split at hr
        · split at hr
          · rename_i r' hr'
            obtain rfl := Option.some.inj hr
            exact wpIn_of_wp (mayB_nodefer hr') (mayB_ok hE hc.rel (strips_ok hc.fr rfl ho.1) hr' ho.2 (hc.fresh _ (Nat.le_refl _)) fun S' v' w' h1 h2 h3 h4 h5 => fin S' v' w' (hc.next h1 h2 (fun id hid => h3 id (by rw [fstN_eq]; exact hid)) h4 op.dst h5))
          · exact old hr
        · exact old hr
      · cases hs
    · rename_i hw
      rw [if_neg (by rw [wantedA_no hc.fr hw]; simp)]
      refine ⟨fun f _ => G.fe_fn f, ?_⟩
      simp only [Option.some.injEq, Prod.mk.injEq] at hs
      obtain ⟨rfl, rfl⟩ := hs
      have := h.go S (a.put op.dst undef) w (hc.next (us := []) (.refl _) (fun _ _ => rfl) (fun _ _ => rfl) hc.rel op.dst (show VR S .und undef by simp only [VR]))
      simpa only [wpK] using this
    · rename_i g hw
      split at hs
      · rename_i r hr
        simp only [Option.some.injEq, Prod.mk.injEq] at hs
        obtain ⟨rfl, rfl⟩ := hs
        have hfresh : S.σ hp.length = none := hc.fresh _ (Nat.le_refl _)
        by_cases hg : g ()
        · rw [if_pos ((wantedA_may hc.fr hw).2 hg)]
          have ho' := gdObs_ok hg ho
          rw [allO_append] at ho'
          have fin : ∀ S' v' w', CfgR G.W G.S0 S' (putO fr op.dst r.v) (hsets hp r.up) (a.put op.dst v') w' → wpListIn G.Fe 0 G.P R.toArray (wpK G.Fe G.P G.Fin k) rest (a.put op.dst v') w' := by
            intro S' v' w' hc'
            have := h.go S' _ w' ⟨hc'.rel, hc'.old, hc'.le, hc'.fresh, ?_, hc'.defers⟩
            · simpa only [wpK] using this
            · exact hc'.fr.guard hg op.dst
          unfold stepM at hr
          split at hr
          · rename_i v obs rd hr1
            obtain rfl := Option.some.inj hr
            exact op_ok (r := ⟨v, [], obs, rd⟩) hE hc (strips_ok hc.fr rfl ho'.1) hr1 ho'.2 fun S' v' w' hc' => fin S' v' w' hc'
          · refine wpIn_of_wp (mayB_nodefer hr) (mayB_ok hE hc.rel (strips_ok hc.fr rfl ho'.1) hr ho'.2 hfresh fun S' v' w' h1 h2 h3 h4 h5 => fin S' v' w' (hc.next h1 h2 (fun id hid => h3 id (by rw [fstN_eq]; exact hid)) h4 op.dst h5))
        · rw [if_neg (fun hh => hg ((wantedA_may hc.fr hw).1 hh))]
          refine ⟨fun f _ => G.fe_fn f, ?_⟩
          have hrel : Rel G.W S (hsets hp r.up) w := by
            unfold stepM at hr
            split at hr
            · obtain rfl := Option.some.inj hr
              exact hc.rel
            · rw [mayB_up hr]; exact hc.rel.dead hfresh
          have := h.go S (a.put op.dst undef) w (hc.next (us := r.up) (.refl _) (fun _ _ => rfl) (fun _ _ => rfl) hrel op.dst (by simp only [VR]; exact ⟨fun hh => absurd hh hg, fun _ => trivial⟩))
          simpa only [wpK] using this
      · cases hs
    · cases hs
  · simp only [Option.some.injEq, Prod.mk.injEq] at hs
    obtain ⟨rfl, rfl⟩ := hs
    simp only [wpK]
    exact wpIn_skip (h.go S a w hc)
  · simp only [Option.some.injEq, Prod.mk.injEq] at hs
    obtain ⟨rfl, rfl⟩ := hs
    simp only [wpK]
    exact wpIn_label (h.go S a w hc)
  · simp only [Option.some.injEq, Prod.mk.injEq] at hs
    obtain ⟨rfl, rfl⟩ := hs
    have := h.go S a w hc
    simp only [wpK] at this ⊢
    refine wpIn_seq (wpIn_mono this ?_)
    intro e a w hq
    cases e <;> exact hq
  · simp only [Option.some.injEq, Prod.mk.injEq] at hs
    obtain ⟨rfl, rfl⟩ := hs
    have := h.go S a w hc
    simp only [wpK] at this ⊢
    refine wpIn_block (wpIn_mono this ?_)
    intro e a w hq
    cases e <;> exact hq
  · rename_i id k
    split at hs
    · rename_i k' hk
      simp only [Option.some.injEq, Prod.mk.injEq] at hs
      obtain ⟨rfl, rfl⟩ := hs
      simp only [wpK]
      exact wpIn_exit (exitK_ok hk (h.go S a w hc))
    · cases hs
  · rename_i x ca cb k
    have hx := hc.fr.ev x
    split at hs
    · rename_i he
      rw [he] at hx
      simp only [VR, SB.d_l] at hx
      simp only [Option.some.injEq, Prod.mk.injEq] at hs
      obtain ⟨rfl, rfl⟩ := hs
      have := h.go S a w hc
      simp only [wpK] at this ⊢
      exact wpIn_cond_true hx this
    · rename_i he
      rw [he] at hx
      simp only [VR, SB.d_l] at hx
      simp only [Option.some.injEq, Prod.mk.injEq] at hs
      obtain ⟨rfl, rfl⟩ := hs
      have := h.go S a w hc
      simp only [wpK] at this ⊢
      exact wpIn_cond_false hx this
    · cases hs
  · rename_i id ops k
    simp only [Option.some.injEq, Prod.mk.injEq] at hs
    obtain ⟨rfl, rfl⟩ := hs
    have := h.go S a w hc
    simp only [wpK] at this ⊢
    have e : ops.toList.toArray = ops := by simp
    rw [e] at this
    exact wpIn_region_list this
  · rename_i id ops k
    split at hs
    · rename_i ds obs fr' h' hd
      split at hs
      · rename_i hok
        simp only [Option.some.injEq, Prod.mk.injEq] at hs
        obtain ⟨rfl, rfl⟩ := hs
        simp only [wpK]
        exact draw_ok hE hc hd hok ho fun S' a' w' hc' => h.go S' a' w' hc'
      · cases hs
    · cases hs
  · cases hs

end
end Go.Sx
