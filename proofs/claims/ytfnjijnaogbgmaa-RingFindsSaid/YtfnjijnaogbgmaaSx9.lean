/- A reckoner of Go code over told values: steps that look at no memory are true. -/
import Derived.Test.YtfnjijnaogbgmaaSx8
import Derived.BigFrame
namespace Go.Sx
open Go Go.RowKit
set_option linter.unusedVariables false
set_option linter.unusedSimpArgs false
section
variable {P : Program} {E : Env} {S : Sg} {w : World}

theorem ungd_ok {x : AV} {v : Value} (h : VR S x v) (ho : allO (ungd x).2) : VR S (ungd x).1 v := by
  unfold ungd at *
  split at ho
  · simp only [allO, nI_eq, and_true] at ho
    simp only [VR] at h
    exact h.1 ho
  · exact h

theorem VRs_map {ρ : Operand → AV} {ev : Operand → Value} (hρ : ∀ y, VR S (ρ y) (ev y)) : ∀ (xs : List Operand), VRs S (xs.map ρ) (xs.map ev)
  | [] => by simp [VRs]
  | x :: xs => ⟨_, _, rfl, hρ x, VRs_map hρ xs⟩
theorem PartsR_map {ρ : Operand → AV} {ev : Operand → Value} (hρ : ∀ y, VR S (ρ y) (ev y)) : ∀ (xs : List (Nat × Operand)), PartsR S (xs.map fun p => (p.1, ρ p.2)) (xs.map fun p => (p.1, ev p.2))
  | [] => by simp [PartsR]
  | x :: xs => ⟨_, _, rfl, hρ x.2, PartsR_map hρ xs⟩
theorem OV_map {ρ : Operand → AV} {ev : Operand → Value} (hρ : ∀ y, VR S (ρ y) (ev y)) (x : Option Operand) : OV S (x.map ρ) (x.map ev) := by
  cases x with
  | none => exact .inl ⟨rfl, rfl⟩
  | some x => exact .inr ⟨_, _, rfl, rfl, hρ x⟩

theorem value_of {s : Sem Value} {v : Value} (h : s.run P w = .ok v w) : (do pure (Next.value (← s)) : Sem Next).run P w = .ok (.value v) w := by
  simp [h]

theorem value_of' {s : Sem Value} {v : Value} {w' : World} (h : s.run P w = .ok v w') : (do pure (Next.value (← s)) : Sem Next).run P w = .ok (.value v) w' := by
  simp [h]

theorem convert_int (hE : EnvRows P E) {src dst : TypeId} {r : TRow} {k k' : IntKind} {n : Int} (hr : E.row dst = some r) (hd : r.d = .int k) (hs : (P.underlying src).isSome = true) :
    (convert src dst (.int k' n)).run P w = .ok (.int k (k.wrap n)) w := by
  obtain ⟨desc, h1, h2⟩ := row_under (w := w) hE hr
  rw [hd] at h2
  obtain rfl := digest_int h2
  obtain ⟨d, hd'⟩ := Option.isSome_iff_exists.1 hs
  have h3 := run_underlying hd' w
  simp only [convert, Sem.run_bind, h3, h1, Result.andThen, Conv.intToInt]
  rfl

theorem pop_ok (hE : EnvRows P E) {ρ : Operand → AV} {ev : Operand → Value} (hρ : ∀ y, VR S (ρ y) (ev y)) {o : Oper} {x : AV} {obs : Obs} (h : pop E ρ o.op = some (x, obs)) (ho : allO obs) :
    ∃ v, (execOp ev o).run P w = .ok (.value v) w ∧ VR S x v := by
  unfold execOp
  generalize hop : o.op = op at *
  cases op <;> simp only [pop, reduceCtorEq] at h
  case move y =>
    simp only [Option.some.injEq, Prod.mk.injEq] at h
    obtain ⟨rfl, rfl⟩ := h
    exact ⟨ev y, by simp, hρ y⟩
  case assign y =>
    simp only [Option.some.injEq, Prod.mk.injEq] at h
    obtain ⟨rfl, rfl⟩ := h
    exact ⟨ev y, by simp, hρ y⟩
  case pick c a b =>
    have hc := hρ c
    split at h
    · rename_i he
      rw [he] at hc
      simp only [VR, SB.d_l] at hc
      cases hu : ungd (ρ a) with
      | mk u ob =>
        rw [hu] at h
        simp only [Option.some.injEq, Prod.mk.injEq] at h
        obtain ⟨rfl, rfl⟩ := h
        have := ungd_ok (hρ a) (by rw [hu]; exact ho)
        rw [hu] at this
        exact ⟨ev a, by simp [hc, asBool], this⟩
    · rename_i he
      rw [he] at hc
      simp only [VR, SB.d_l] at hc
      cases hu : ungd (ρ b) with
      | mk u ob =>
        rw [hu] at h
        simp only [Option.some.injEq, Prod.mk.injEq] at h
        obtain ⟨rfl, rfl⟩ := h
        have := ungd_ok (hρ b) (by rw [hu]; exact ho)
        rw [hu] at this
        exact ⟨ev b, by simp [hc, asBool], this⟩
    · rename_i f he
      rw [he] at hc
      simp only [VR, SB.d_t] at hc
      split at h
      · rename_i k i oa hu
        split at h
        · rename_i k' j ob hu'
          split at h
          · rename_i hk
            subst hk
            simp only [Option.some.injEq, Prod.mk.injEq] at h
            obtain ⟨rfl, rfl⟩ := h
            simp only [allO, nI_eq, and_true] at ho
            cases hf : f ()
            · have := ungd_ok (hρ b) (by rw [hu']; exact ho.2 hf)
              rw [hu'] at this
              simp only [VR] at this
              exact ⟨ev b, by simp [hc, asBool, hf], by simp only [VR, SI.d_t, hf]; simpa using this⟩
            · have := ungd_ok (hρ a) (by rw [hu]; exact ho.1 hf)
              rw [hu] at this
              simp only [VR] at this
              exact ⟨ev a, by simp [hc, asBool, hf], by simp only [VR, SI.d_t, hf]; simpa using this⟩
          · cases h
        · cases h
      · rename_i i oa hu
        split at h
        · rename_i j ob hu'
          simp only [Option.some.injEq, Prod.mk.injEq] at h
          obtain ⟨rfl, rfl⟩ := h
          simp only [allO, nI_eq, and_true] at ho
          cases hf : f ()
          · have := ungd_ok (hρ b) (by rw [hu']; exact ho.2 hf)
            rw [hu'] at this
            simp only [VR] at this
            exact ⟨ev b, by simp [hc, asBool, hf], by simp only [VR, SB.d_t, hf]; simpa using this⟩
          · have := ungd_ok (hρ a) (by rw [hu]; exact ho.1 hf)
            rw [hu] at this
            simp only [VR] at this
            exact ⟨ev a, by simp [hc, asBool, hf], by simp only [VR, SB.d_t, hf]; simpa using this⟩
        · cases h
      · cases h
    · cases h
  case nilCheck y =>
    have hy := hρ y
    split at h <;> first | (cases h; done) | skip
    all_goals
      rename_i he
      rw [he] at hy
      simp only [Option.some.injEq, Prod.mk.injEq] at h
      obtain ⟨rfl, rfl⟩ := h
      refine ⟨ev y, ?_, hy⟩
      simp only [VR] at hy
      first | (obtain ⟨_, _, _, hy', _⟩ := hy; simp [hy']; done) | (obtain ⟨_, _, _, hy'⟩ := hy; simp [hy']; done) | (obtain ⟨_, _, hy', _⟩ := hy; simp [hy']; done)
  case binOp op t y z ty =>
    obtain ⟨v, h1, h2⟩ := binA_ok (w := w) hE y z h ho (hρ y) (hρ z)
    exact ⟨v, value_of h1, h2⟩
  case unOp op t y =>
    split at h
    · rename_i v hv
      simp only [Option.some.injEq, Prod.mk.injEq] at h
      obtain ⟨rfl, rfl⟩ := h
      obtain ⟨u, h1, h2⟩ := unA_ok (P := P) (w := w) hv (hρ y)
      exact ⟨u, value_of h1, h2⟩
    · cases h
  case makeInterface t y =>
    split at h
    · rename_i r hr
      obtain ⟨desc, h1, h2⟩ := row_under (w := w) hE hr
      split at h
      · cases h
      · rename_i hd
        simp only [Option.some.injEq, Prod.mk.injEq] at h
        obtain ⟨rfl, rfl⟩ := h
        refine ⟨.iface t (ev y), value_of ?_, by simp only [VR]; exact ⟨_, rfl, hρ y⟩⟩
        simp only [Instr.makeInterface, Sem.run_bind, h1, Result.andThen]
        cases desc <;> first | rfl | (exact absurd h2.symm hd)
    · cases h
  case makeFunc f a b =>
    simp only [Option.some.injEq, Prod.mk.injEq] at h
    obtain ⟨rfl, rfl⟩ := h
    refine ⟨.func f (a.map ev) (b.map ev), value_of rfl, ?_⟩
    simp only [VR]
    exact ⟨_, _, rfl, by simpa using VRs_map hρ a.toList, by simpa using VRs_map hρ b.toList⟩
  case fieldAddr t y f =>
    split at h
    · rename_i v hv
      simp only [Option.some.injEq, Prod.mk.injEq] at h
      obtain ⟨rfl, rfl⟩ := h
      obtain ⟨u, h1, h2⟩ := fieldAddrA_ok (w := w) hE hv (hρ y)
      exact ⟨u, value_of h1, h2⟩
    · cases h
  case field t y f =>
    split at h
    · rename_i v hv
      simp only [Option.some.injEq, Prod.mk.injEq] at h
      obtain ⟨rfl, rfl⟩ := h
      obtain ⟨u, h1, h2⟩ := fieldA_ok (w := w) hE hv (hρ y)
      exact ⟨u, value_of h1, h2⟩
    · cases h
  case indexAddr t y i =>
    obtain ⟨u, h1, h2⟩ := indexAddrA_ok (w := w) hE h ho (hρ y) (hρ i)
    exact ⟨u, value_of h1, h2⟩
  case index t y i =>
    obtain ⟨u, h1, h2⟩ := indexA_ok (w := w) hE h ho (hρ y) (hρ i)
    exact ⟨u, value_of h1, h2⟩
  case slice t y lo hi mx =>
    obtain ⟨u, h1, h2⟩ := sliceA_ok (w := w) hE h ho (hρ y) (OV_map hρ lo) (OV_map hρ hi) (OV_map hρ mx)
    exact ⟨u, value_of h1, h2⟩
  case build t ps =>
    split at h
    · rename_i cs hcs
      simp only [Option.some.injEq, Prod.mk.injEq] at h
      obtain ⟨rfl, rfl⟩ := h
      obtain ⟨u, h1, h2⟩ := buildA_ok (w := w) (vs := ps.map fun (i, x) => (i, ev x)) hE hcs (by simpa using PartsR_map hρ ps.toList)
      exact ⟨u, value_of h1, h2⟩
    · cases h
  case extract y i =>
    have hy := hρ y
    split at h
    · rename_i vs he
      rw [he] at hy
      simp only [VR] at hy
      obtain ⟨us, hy, hus⟩ := hy
      split at h
      · rename_i v hv
        simp only [Option.some.injEq, Prod.mk.injEq] at h
        obtain ⟨rfl, rfl⟩ := h
        obtain ⟨u, h1, h2⟩ := hus.nth hv
        exact ⟨u, value_of (by simp [Instr.extract, hy, show us[i]? = some u by simpa using h1]), h2⟩
      · cases h
    · cases h
  case convert src dst y =>
    have hy := hρ y
    split at h
    · cases h
    · rename_i rs hrs
      obtain ⟨ds, hs, _⟩ := row_under (w := w) hE hrs
      split at h
      · rename_i r hr
        obtain ⟨desc, h1, h2⟩ := row_under (w := w) hE hr
        split at h
        · rename_i k hd
          rw [hd] at h2
          obtain rfl := digest_int h2
          split at h
          · rename_i k' n he
            rw [he] at hy
            simp only [VR] at hy
            simp only [Option.some.injEq, Prod.mk.injEq] at h
            obtain ⟨rfl, rfl⟩ := h
            refine ⟨.int k (k.wrap n.d), value_of ?_, by simp only [VR, SI.d_map]⟩
            simp only [convert, Sem.run_bind, hs, h1, Result.andThen, hy, Conv.intToInt]
            rfl
          · cases h
        · rename_i hd
          rw [hd] at h2
          obtain rfl := digest_str h2
          split at h
          · rename_i s he
            rw [he] at hy
            simp only [VR] at hy
            simp only [Option.some.injEq, Prod.mk.injEq] at h
            obtain ⟨rfl, rfl⟩ := h
            refine ⟨.string (s ()), value_of ?_, by simp only [VR]⟩
            simp only [convert, Sem.run_bind, hs, h1, Result.andThen, hy]
            rfl
          · cases h
        · cases h
      · cases h
  case typeAssert y xt t ok =>
    have hy := hρ y
    split at h
    · rename_i t' v he
      rw [he] at hy
      simp only [VR] at hy
      obtain ⟨u, hy, hu⟩ := hy
      split at h
      · rename_i r hr
        obtain ⟨desc, h1, h2⟩ := row_under (w := w) hE hr
        have hz := row_zero (w := w) hE hr
        split at h
        · cases h
        · rename_i hd
          have hni : ∀ ms, desc ≠ .interface ms := by
            rintro ms rfl
            exact hd h2.symm
          split at h
          · rename_i ht
            subst ht
            simp only [Option.some.injEq, Prod.mk.injEq] at h
            obtain ⟨rfl, rfl⟩ := h
            cases ok
            · refine ⟨u, value_of ?_, by simpa using hu⟩
              simp only [Instr.typeAssert, Sem.run_bind, h1, Result.andThen, hy]
              cases desc <;> first | (simp; done) | (exact absurd rfl (hni _))
            · refine ⟨.tuple #[u, .bool true], value_of ?_, ?_⟩
              · simp only [Instr.typeAssert, Sem.run_bind, h1, Result.andThen, hy]
                cases desc <;> first | (simp; done) | (exact absurd rfl (hni _))
              · simp only [if_true, VR]
                exact ⟨_, rfl, u, _, rfl, hu, _, _, rfl, by simp only [VR, SB.d_l], by simp only [VRs]⟩
          · rename_i ht
            split at h
            · rename_i hok
              subst hok
              simp only [Option.some.injEq, Prod.mk.injEq] at h
              obtain ⟨rfl, rfl⟩ := h
              refine ⟨.tuple #[r.z, .bool false], value_of ?_, ?_⟩
              · simp only [Instr.typeAssert, Sem.run_bind, h1, Result.andThen, hy]
                cases desc <;> first | (simp [ht, hz]; done) | (exact absurd rfl (hni _))
              · simp only [VR]
                exact ⟨_, rfl, _, _, rfl, ofV_ok _, _, _, rfl, by simp only [VR, SB.d_l], by simp only [VRs]⟩
            · cases h
      · cases h
    · cases h
  case call c =>
    obtain ⟨callee, args, ats⟩ := c
    cases callee <;> (try simp only [reduceCtorEq] at h)
    rename_i b
    have hargs := VRs_map hρ args.toList
    cases b <;> (try simp only [reduceCtorEq] at h)
    case len =>
      split at h
      · rename_i y hy
        split at h
        · rename_i t ht
          split at h
          · rename_i r hr
            split at h
            · rename_i n hn
              simp only [Option.some.injEq, Prod.mk.injEq] at h
              obtain ⟨rfl, rfl⟩ := h
              have e1 : args = #[y] := by rw [← Array.toArray_toList (xs := args), hy]
              have e2 : ats = #[t] := by rw [← Array.toArray_toList (xs := ats), ht]
              subst e1 e2
              have := lenA_ok (w := w) (ty := o.type) hE hr hn (hρ y)
              have this : (Builtin.len_ #[t] o.type (#[y].map ev)).run P w = .ok (.int .i64 n.d) w := by simpa using this
              exact ⟨.int .i64 n.d, value_of (s := Builtin.len_ #[t] o.type (#[y].map ev)) this, by simp only [VR, SN.d_toI]⟩
            · cases h
          · cases h
        · cases h
      · cases h
    case min =>
      split at h
      · rename_i y ys hy
        split at h
        · rename_i v hv
          simp only [Option.some.injEq, Prod.mk.injEq] at h
          obtain ⟨rfl, rfl⟩ := h
          have e1 : args = (y :: ys).toArray := by rw [← hy]
          subst e1
          obtain ⟨u, h1, h2⟩ := minmax_ok (P := P) (w := w) hv (hρ y) (VRs_map hρ ys)
          refine ⟨u, value_of (s := Builtin.min_ ats o.type (((y :: ys).toArray).map ev)) ?_, h2⟩
          simpa [Builtin.min_] using h1
        · cases h
      · cases h
    case max =>
      split at h
      · rename_i y ys hy
        split at h
        · rename_i v hv
          simp only [Option.some.injEq, Prod.mk.injEq] at h
          obtain ⟨rfl, rfl⟩ := h
          have e1 : args = (y :: ys).toArray := by rw [← hy]
          subst e1
          obtain ⟨u, h1, h2⟩ := minmax_ok (P := P) (w := w) hv (hρ y) (VRs_map hρ ys)
          refine ⟨u, value_of (s := Builtin.max_ ats o.type (((y :: ys).toArray).map ev)) ?_, h2⟩
          simpa [Builtin.max_] using h1
        · cases h
      · cases h

end
end Go.Sx
