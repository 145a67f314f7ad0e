/- A reckoner of Go code over told values: calls whose body is run. -/
import Derived.Test.YtfnjijnaogbgmaaSx22
namespace Go.Sx
open Go Go.RowKit
set_option linter.unusedVariables false
set_option linter.unusedSimpArgs false

theorem get_app_left : ∀ (a b : List AV) (i : Nat), i < a.length → get (a ++ b) i = get a i := by
  intro a
  induction a with
  | nil => intro b i h; simp at h
  | cons x a ih => intro b i h; cases i with | zero => rfl | succ i => exact ih b i (by simpa using h)
theorem get_app_right : ∀ (a b : List AV) (i : Nat), a.length ≤ i → get (a ++ b) i = get b (i - a.length) := by
  intro a
  induction a with
  | nil => intro b i h; rfl
  | cons x a ih => intro b i h; cases i with | zero => simp at h | succ i => simp only [List.cons_append, get, List.length_cons, Nat.add_sub_add_right]; exact ih b i (by simpa using h)
theorem fr_start {S : Sg} {xs : List AV} {vs : Array Value} {n : Nat} (h : VRs S xs vs.toList) : FrR S (app xs (anys (n - xs.length))) { tmps := vs ++ Array.replicate (n - vs.size) undef, defers := [] } := by
  have hl : vs.size = xs.length := by have := h.length; simpa using this
  refine ⟨?_, fun i => ?_⟩
  · simp only [app_eq, List.length_append, anys_length, hl, Array.size_append, Array.size_replicate]
  · simp only [app_eq]
    by_cases hi : i < xs.length
    · rw [get_app_left _ _ i hi]
      have h2 : (vs ++ Array.replicate (n - vs.size) undef).getD i undef = vs.toList.getD i undef := by
        have : i < vs.size := by omega
        simp [Array.getD, List.getD, this, Array.getElem_append_left, show i < vs.size + (n - vs.size) by omega]
      rw [h2]
      exact h.getD i
    · rw [get_app_right _ _ i (by omega), anys_get]
      simp only [VR]

/-- A call's body is run; each return goes on in the caller. -/
theorem AM.inlineB {P : Program} {G : Gl} {E : Env} {rs : List ResultVar} (hG : GOk P G E rs) {fr : List AV} {h : List Blk} {R rest : List Oper} {o : Oper} {k : List It} {f : Operand} {as : Array Operand} {ts : Array TypeId} {g : FuncId} {xs : List AV}
    {fn : Func} {body : Code} {rs' : List ResultVar} {n : Nat} (hw : wantedA R fr o = .yes) (hop : o.op = .call { callee := .value f, args := as, argTypes := ts }) (hc : callsTo (ev fr f) (as.toList.map (ev fr)) = some (g, xs))
    (hf : P.funcs[g]? = some fn) (hname : (fn.name == "runtime.NumGoroutine") = false) (hb : fn.body = some body) (hrs : fn.results.toList = rs') (hn : fn.ntmps = n)
    (h1 : ∀ G' : Gl, GOk P G' E rs' → (∀ id, h.length ≤ id → G'.S0.σ id = none) → (∀ v h', AM G ⟨putO fr o.dst v, h', .ops R rest :: k⟩ → G'.Q v h') → AM G' ⟨app xs (anys (n - xs.length)), h, [.code body]⟩) : AM G ⟨fr, h, .ops R (o :: rest) :: k⟩ := by
  refine ⟨fun S a w hcfg => ?_⟩
  simp only [wpK]
  unfold wpListIn
  rw [if_pos (wantedA_yes hcfg.fr hw)]
  refine wpIn_of_wp (by rw [hop]; simp) ?_
  obtain ⟨first, cap, hfv, hxs⟩ := callsTo_ok hc (hcfg.fr.ev f) (by simpa using VRs_map hcfg.fr.ev as.toList : VRs S (as.toList.map (ev fr)) (as.map a.eval).toList)
  have hp := hG.p
  subst hp
  unfold Oper.wp
  rw [call_exec hop hfv hf hname (by rw [hb]; rfl)]
  simp only [Oper.upon]
  have key := h1 { P := G.P, E := G.E, fn := fn, W := G.W, S0 := S, Q := fun v h' => AM G ⟨putO fr o.dst v, h', .ops R rest :: k⟩ } ⟨rfl, hG.ok, hG.e, .inl ⟨rfl, hrs⟩⟩ hcfg.fresh (fun _ _ h => h)
  refine (calls_of_wpG hf hb (R := Gl.End { P := G.P, E := G.E, fn := fn, W := G.W, S0 := S, Q := fun v h' => AM G ⟨putO fr o.dst v, h', .ops R rest :: k⟩ }) ?_).mono ?_
  · have := key.go S { tmps := (first ++ as.map a.eval ++ cap) ++ Array.replicate (fn.ntmps - (first ++ as.map a.eval ++ cap).size) undef, defers := [] } w ⟨hcfg.rel, fun _ _ => rfl, .refl _, hcfg.fresh, by rw [hn]; exact fr_start hxs, trivial⟩
    simp only [wpK] at this
    exact wpIn_mono this fun e a w hq => hq
  · rintro e w' ⟨v, x, h', T, rfl, hT, hle, hold, hfresh, hv, hAM⟩
    have := hAM.go T (a.put o.dst v) w' ⟨hT, fun b hb => (hold b hb).trans (hcfg.old b hb), hcfg.le.trans hle, hfresh, (hcfg.fr.mono hle).put o.dst hv, by have := hcfg.defers.mono hle.F; cases o.dst <;> exact this⟩
    simpa only [wpK] using this
theorem AM.inline {P : Program} {G : Gl} {E : Env} {rs : List ResultVar} (hG : GOk P G E rs) {fr : List AV} {h : List Blk} {R rest : List Oper} {o : Oper} {k : List It} {f : Operand} {as : Array Operand} {ts : Array TypeId} {g : FuncId} {xs : List AV}
    {fn : Func} {body : Code} {rs' : List ResultVar} {n : Nat} (hw : wantedA R fr o = .yes) (hop : o.op = .call { callee := .value f, args := as, argTypes := ts }) (hc : callsTo (ev fr f) (as.toList.map (ev fr)) = some (g, xs))
    (hf : P.funcs[g]? = some fn) (hname : (fn.name == "runtime.NumGoroutine") = false) (hb : fn.body = some body) (hrs : fn.results.toList = rs') (hn : fn.ntmps = n)
    (h1 : ∀ G' : Gl, GOk P G' E rs' → (∀ v h', AM G ⟨putO fr o.dst v, h', .ops R rest :: k⟩ → G'.Q v h') → AM G' ⟨app xs (anys (n - xs.length)), h, [.code body]⟩) : AM G ⟨fr, h, .ops R (o :: rest) :: k⟩ :=
  AM.inlineB hG hw hop hc hf hname hb hrs hn fun G' h2 _ h3 => h1 G' h2 h3
end Go.Sx
