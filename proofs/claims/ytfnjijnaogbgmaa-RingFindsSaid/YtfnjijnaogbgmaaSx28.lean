/- A reckoner of Go code over told values: is a slice nil? -/
import Derived.Test.YtfnjijnaogbgmaaSx27
import Derived.Lib.SliceRun
namespace Go.Sx
open Go Go.RowKit
set_option linter.unusedVariables false
set_option linter.unusedSimpArgs false
section
variable {G : Gl} {E : Env} {P : Program} {rs : List ResultVar}
/-- A slice that is read is compared with nil: both ways are gone; nil has no elements. -/
theorem AM.nilRo (hG : GOk P G E rs) {fr : List AV} {h : List Blk} {R rest : List Oper} {o : Oper} {k : List It} {t : Nat} {ty ty' : TypeId} {K : Kd} {l : Unit → List K.T} {r : TRow} {e : TypeId} (hw : wantedA R fr o = .yes)
    (hop : o.op = .binOp .eql ty (.tmp t) (.const (.slice none 0 0)) ty') (hx : get fr t = .ro K l) (hr : E.row ty = some r) (hd : r.d = .slice e)
    (h1 : ∀ b : Bool, (b = true → l () = []) → AM G ⟨putO fr o.dst (.bool (.l b)), h, .ops R rest :: k⟩) : AM G ⟨fr, h, .ops R (o :: rest) :: k⟩ := by
  refine ⟨fun S a w hc => ?_⟩
  have he := hG.e
  subst he
  have hv := hc.fr.get t
  rw [hx] at hv
  simp only [VR, KR] at hv
  obtain ⟨A, c, hv, _, hA⟩ := hv
  simp only [List.cons.injEq, and_true] at hv
  obtain ⟨d, e1, e2⟩ := (hG.ok.rows.rows _ _ hr).d
  rw [hd] at e2
  obtain rfl := digest_slice e2
  simp only [wpK]
  unfold wpListIn
  rw [if_pos (wantedA_yes hc.fr hw)]
  refine wpIn_of_wp (by rw [hop]; simp) ?_
  have h2 : (execOp a.eval o).run G.P w = .ok (.value (.bool A.isNone)) w := by
    simp only [execOp, hop, Act.eval, hv]
    refine value_of' ?_
    have := Lib.run_eql_slice_nil w ty e A (l ()).length c 0 0 e1
    exact this
  unfold Oper.wp
  rw [h2]
  have := (h1 A.isNone (fun hn => by
    rcases hA with hA | ⟨a', _, _, _, ha, _⟩
    · exact hA
    · rw [ha] at hn; simp at hn)).go S (a.put o.dst (.bool A.isNone)) w (hc.next (us := []) (.refl _) (fun _ _ => rfl) (fun _ _ => rfl) hc.rel o.dst (by simp only [VR, SB.d_l]))
  simp only [wpK] at this
  exact this
end

/-- What is told ahead of a step is told once, however many ways lead to it. -/
theorem AM.join {G : Gl} {fr : List AV} {h : List Blk} (fr' : List AV) (h' : List Blk) {R rest : List Oper} {o : Oper} {k : List It} (h1 : AM G ⟨fr', h', .ops R rest :: k⟩ → AM G ⟨fr, h, .ops R (o :: rest) :: k⟩) (h2 : AM G ⟨fr', h', .ops R rest :: k⟩) : AM G ⟨fr, h, .ops R (o :: rest) :: k⟩ := h1 h2

/-! Functions whose results are rows of the caller's own. -/
structure FinOwn (v : AV) (rows : List Blk) (x : AV) (h : List Blk) : Prop where
  of : ∃ m, renOk 0 m h rows = true ∧ Sx.imp x (ren m v) ∧ rimps m h 0 rows
theorem FinOwn.mk' {v : AV} {rows : List Blk} {x : AV} {h : List Blk} {p q : Prop} (m : List Nat) (hm : renOk 0 m h rows = true) (hi : Sx.imp x (ren m v) = p) (hr : rimps m h 0 rows = q) (h1 : p) (h2 : q) : FinOwn v rows x h := ⟨m, hm, hi ▸ h1, hr ▸ h2⟩
def ownSpec {X : Type} (dec : List AV → Option (Unit → X)) (vE : (Unit → X) → AV) (rE : (Unit → X) → List Blk) (pre : X → Prop) (xs : List AV) : Option FOut :=
  match dec xs with
  | some y => some ⟨vE y, rE y, [fun _ => pre (y ())]⟩
  | none => none
theorem fn_ofO {P : Program} {E : Env} (hE : EnvOk P E) {f : FuncId} {fn : Func} {body : Code} {rs : List ResultVar} {n : Nat} (hf : P.funcs[f]? = some fn) (hname : (fn.name == "runtime.NumGoroutine") = false) (hb : fn.body = some body) (hrs : fn.results.toList = rs) (hn : fn.ntmps = n)
    {X : Type} {m : Nat} {enc : (Unit → X) → List AV} {dec : List AV → Option (Unit → X)} (encOk : ∀ {S : Sg} {xs : List AV} {y : Unit → X} {vs : List Value}, dec xs = some y → VRs S xs vs → VRs S (enc y) vs) (encLen : ∀ y, (enc y).length = m)
    {vE : (Unit → X) → AV} {rE : (Unit → X) → List Blk} {pre : X → Prop}
    (h : ∀ x : X, pre x → ∀ G : Gl, GOk P G E rs → (G.S0.σ = fun _ => none) → (∀ v h', FinOwn (vE fun _ => x) (rE fun _ => x) v h' → G.Q v h') → AM G ⟨app (enc (fun _ => x)) (anys (n - m)), [], [.code body]⟩) : FnOk P f (ownSpec dec vE rE pre) := by
  refine ⟨⟨fn, hf, hname, by rw [hb]; rfl⟩, ?_⟩
  intro xs out hs ho F w vs hF hv
  unfold ownSpec at hs
  split at hs
  · rename_i y hy
    obtain rfl := Option.some.inj hs
    simp only [allO, and_true] at ho
    have henc := encOk hy hv
    have hlen : (enc y).length = m := encLen y
    have hvl : vs.size = m := by have := henc.length; rw [hlen] at this; simpa using this
    have key := h (y ()) ho { P := P, E := E, fn := fn, W := w, S0 := ⟨fun _ => none, F⟩, Q := fun v h' => FinOwn (vE y) (rE y) v h' } ⟨rfl, hE, rfl, .inl ⟨rfl, hrs⟩⟩ rfl (fun _ _ h => h)
    refine (calls_of_wpG hf hb (R := Gl.End { P := P, E := E, fn := fn, W := w, S0 := ⟨fun _ => none, F⟩, Q := fun v h' => FinOwn (vE y) (rE y) v h' }) ?_).mono ?_
    · have := key.go ⟨fun _ => none, F⟩ { tmps := vs ++ Array.replicate (fn.ntmps - vs.size) undef, defers := [] } w ?_
      · simp only [wpK] at this
        exact wpIn_mono this fun e a w hq => hq
      · refine ⟨⟨Below.refl _ _, hF, fun id ha => by simp [hget, alive] at ha, fun id g c ha => by simp [hget, alive] at ha, fun id id' g c c' ha => by simp [hget, alive] at ha⟩, fun _ _ => rfl, .refl _, fun _ _ => rfl, ?_, trivial⟩
        have hst := fr_start (n := n) henc
        rw [hlen] at hst
        subst hn
        exact hst
    · rintro e w' ⟨v, x, h', T, rfl, hT, hTF, hTo, hTf, hTv, ⟨m, hm, hi, hr⟩⟩
      have hc : CfgR w ⟨fun _ => none, F⟩ T [x] h' { tmps := #[v], defers := [] } w' := ⟨hT, hTo, hTF, hTf, ⟨rfl, fun i => by
        cases i with
        | zero => simpa [get] using hTv
        | succ i => simp [get, VR]⟩, trivial⟩
      have hc' := ren_cfg (base := 0) (fun _ _ => rfl) m (fr' := [vE y]) hm (by simp only [rens, imps, and_true]; exact hi) hr hc
      exact ⟨v, _, rfl, hc'.rel, hc'.le.F, hc'.old, hc'.fresh, by simpa [get] using hc'.fr.get 0⟩
  · cases hs
end Go.Sx
