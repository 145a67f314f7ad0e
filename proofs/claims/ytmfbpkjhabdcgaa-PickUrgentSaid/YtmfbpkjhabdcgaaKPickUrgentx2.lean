/- Part 2 of PickUrgent: what the functions reckon, step by step, and plain laws. No condition. -/
import Derived.Test.YtmfbpkjhabdcgaaKPickUrgentx1
section
namespace Go.Proofs.Ytmfbpkjhabdcgaa.F
open Go.RowKit Go.Proofs.YtmfbpkjhabdcgaaW.PrintWords Go.Proofs.YtmfbpkjhabdcgaaW.PrintLast Go.Proofs.YtmfbpkjhabdcgaaW.PrintMore
set_option linter.unusedVariables false
set_option linter.unusedSimpArgs false
/-- The first urgent hall call is HALL. -/
theorem hallRun_urgent (now cycle : Int) (K : List (Int × Int × Int)) (x : S29) (hx : x.f0 ≠ 3) (hu : cycle ≤ wrap64 (now - x.f3)) (post : List S29) : ∀ (pre : List S29) (f : S29) (s : Bool), (∀ y ∈ pre, okC y) → (∀ y ∈ pre, y.f0 ≠ 3 → ¬ cycle ≤ wrap64 (now - y.f3)) →
    hallRun now cycle K (pre ++ x :: post) f s = some (x, true)
  | [], f, s, _, _ => by rw [List.nil_append, hallRun, if_neg hx, if_pos hu]
  | y :: pre, f, s, h, hn => by
    have ih := fun f s => hallRun_urgent now cycle K x hx hu post pre f s (fun z hz => h z (List.mem_cons_of_mem _ hz)) (fun z hz => hn z (List.mem_cons_of_mem _ hz))
    rw [List.cons_append, hallRun]
    by_cases h3 : y.f0 = 3
    · rw [if_pos h3]; exact ih f s
    · rw [if_neg h3, if_neg (hn y List.mem_cons_self h3), if_pos (ok_wfK (h y List.mem_cons_self))]
      split
      · exact ih f s
      · split
        · exact ih f s
        · exact ih y true
end Go.Proofs.Ytmfbpkjhabdcgaa.F
end
section
namespace Go.Proofs.Ytmfbpkjhabdcgaa.Pure
open Go.RowKit Go.Proofs.Ytmfbpkjhabdcgaa.F Go.Proofs.YtmfbpkjhabdcgaaW.PrintWords Go.Proofs.YtmfbpkjhabdcgaaW.PrintLast
set_option linter.unusedVariables false
set_option linter.unusedSimpArgs false
theorem awakePU {k : Nat} (hk : 150 ≤ k) : L28_awake.f k = some true := le_fuel L28_awake.mono hk (by kernel_rfl)
end Go.Proofs.Ytmfbpkjhabdcgaa.Pure
end
section
namespace Go.Proofs.Ytmfbpkjhabdcgaa.Pure
open Go.RowKit Go.Proofs.Ytmfbpkjhabdcgaa.F Go.Proofs.YtmfbpkjhabdcgaaW.PrintWords Go.Proofs.YtmfbpkjhabdcgaaW.PrintLast
set_option linter.unusedVariables false
set_option linter.unusedSimpArgs false
/-- What is known of the first urgent call, behind j calls. -/
def FirstIs (now cycle : Int) (l : List S29) (j : Nat) (s : Bool) (f : S29) : Prop :=
  if s = true then ∃ pre post, l = pre ++ f :: post ∧ f.f0 ≠ 3 ∧ cycle ≤ wrap64 (now - f.f3) ∧ ∀ y ∈ pre, y.f0 ≠ 3 → ¬ cycle ≤ wrap64 (now - y.f3)
  else ∀ y ∈ l.take j, y.f0 ≠ 3 → ¬ cycle ≤ wrap64 (now - y.f3)
end Go.Proofs.Ytmfbpkjhabdcgaa.Pure
end
section
namespace Go.Proofs.Ytmfbpkjhabdcgaa.Pure
open Go.RowKit Go.Proofs.Ytmfbpkjhabdcgaa.F Go.Proofs.YtmfbpkjhabdcgaaW.PrintWords Go.Proofs.YtmfbpkjhabdcgaaW.PrintLast
set_option linter.unusedVariables false
set_option linter.unusedSimpArgs false
theorem first_next {now cycle : Int} {l : List S29} {j : Nat} (hj : j < l.length) {s : Bool} {f : S29} (h : FirstIs now cycle l j s f) :
    FirstIs now cycle l (j + 1) (if l[j].f0 ≠ 3 ∧ s = false ∧ cycle ≤ wrap64 (now - l[j].f3) then true else s) (if l[j].f0 ≠ 3 ∧ s = false ∧ cycle ≤ wrap64 (now - l[j].f3) then l[j] else f) := by
  by_cases hc : l[j].f0 ≠ 3 ∧ s = false ∧ cycle ≤ wrap64 (now - l[j].f3)
  · rw [if_pos hc, if_pos hc]
    obtain ⟨h3, rfl, hu⟩ := hc
    unfold FirstIs at h ⊢
    rw [if_neg (by decide)] at h
    rw [if_pos rfl]
    refine ⟨l.take j, l.drop (j + 1), ?_, h3, hu, h⟩
    rw [← List.drop_eq_getElem_cons hj, List.take_append_drop]
  · rw [if_neg hc, if_neg hc]
    unfold FirstIs at h ⊢
    cases s with
    | true => exact h
    | false =>
      rw [if_neg (by decide)] at h ⊢
      intro y hy h3
      rw [List.take_succ_eq_append_getElem hj] at hy
      rcases List.mem_append.1 hy with hy | hy
      · exact h y hy h3
      · rw [List.mem_singleton] at hy
        subst hy
        exact fun hu => hc ⟨h3, rfl, hu⟩
end Go.Proofs.Ytmfbpkjhabdcgaa.Pure
end
section
namespace Go.Proofs.Ytmfbpkjhabdcgaa.Pure
open Go.RowKit Go.Proofs.Ytmfbpkjhabdcgaa.F Go.Proofs.YtmfbpkjhabdcgaaW.PrintWords Go.Proofs.YtmfbpkjhabdcgaaW.PrintLast
set_option linter.unusedVariables false
set_option linter.unusedSimpArgs false
theorem urgent_loop {car trip now cycle floor : Int} (hc : 1 ≤ car ∧ car ≤ 8) (ht : 0 ≤ trip ∧ trip ≤ 15) (he : trip % 2 = 0) (hn : 0 ≤ now ∧ now ≤ 100) (hy : 1 ≤ cycle ∧ cycle ≤ 40) (hf : 0 ≤ floor ∧ floor ≤ 7) (m : Int) (hm : 0 ≤ m ∧ m ≤ 8) (l : List S29) (hV : ValidT 20 l) :
    ∀ (d j k : Nat) (s : Bool) (f : S29) (Tk : List S29), j + d = l.length → 2 * d + 160 ≤ k → Taken Tk → (Tk.length : Int) ≤ m → FirstIs now cycle l j s f →
      L28_PickUrgent.l0 k m s j 20 l car 0 trip now cycle 0 500 floor 2 Tk f.f0 f.f1 f.f2 f.f3 = some true := by
  intro d
  induction d with
  | zero =>
    intro j k s f Tk hj hk hT hTm hF
    obtain ⟨k, rfl⟩ : ∃ z, k = z + 1 := ⟨k - 1, by omega⟩
    obtain ⟨K, hK, h, hb, r, b, h1, h2, h3⟩ := by_even (k := k) (by omega) hV hc ht he hn hy hf hT
    rw [L28_PickUrgent.l0, if_neg (by omega), h2]
    simp only [Option.bind_some, if_true]
    have haw := awakePU (k := k) (by omega)
    cases s with
    | false => simp only [Bool.false_eq_true, if_false, haw, Option.bind_some]
    | true =>
      unfold FirstIs at hF
      rw [if_pos rfl] at hF
      obtain ⟨pre, post, rfl, g1, g2, g3⟩ := hF
      have hu := hallRun_urgent now cycle K f g1 g2 post pre ⟨0, 0, 0, 0⟩ false (fun y hy => hV.ok y (List.mem_append.2 (.inl hy))) g3
      rw [hu] at h1
      simp only [Option.some.injEq, Prod.mk.injEq] at h1
      obtain ⟨rfl, rfl⟩ := h1
      rcases h3 with ⟨_, rfl, rfl⟩ | ⟨h3, _⟩
      · simp only [if_true, beq_self_eq_true, Bool.and_self, haw, Option.bind_some]
      · cases h3
  | succ d ih =>
    intro j k s f Tk hj hk hT hTm hF
    obtain ⟨k, rfl⟩ : ∃ z, k = z + 2 := ⟨k - 2, by omega⟩
    have hjl : j < l.length := by omega
    have hlt : (j : Int) < (l.length : Int) := by omega
    have h0 : (0 : Int) ≤ (j : Int) := by omega
    have hN := first_next hjl hF
    have h8 := hT.1
    have hbig : Tk.length < 4398046511104 := by omega
    have hok := hV.ok l[j] (List.getElem_mem _)
    have hl20 := hV.len
    have h160 : 2 * d + 160 ≤ k := by omega
    have h160' : 2 * d + 160 ≤ k + 1 := by omega
    have hj1 : (j + 1) + d = l.length := by omega
    have hTx : l[j].f0 ≠ 3 → (Tk.length : Int) < m → Taken (Tk ++ [l[j]]) ∧ ((Tk ++ [l[j]]).length : Int) ≤ m := fun h3 hlt' => by
      refine ⟨⟨by simp; omega, fun x hx => ?_⟩, by simp; omega⟩
      rcases List.mem_append.1 hx with hx | hx
      · exact hT.2 x hx
      · rw [List.mem_singleton] at hx; subst hx; exact ⟨hok, h3⟩
    have hwi : wrap64 ((j : Int) + 1) = ((j + 1 : Nat) : Int) := by rw [wrap_id (by omega) (by omega)]; omega
    have hstep : ∀ u : Bool, l[j].f0 ≠ 3 → (u = true ↔ s = false ∧ cycle ≤ wrap64 (now - l[j].f3)) → L28_PickUrgent.j1 (k + 1) m s j u 20 l car 0 trip now cycle 0 500 floor 2 Tk f.f0 f.f1 f.f2 f.f3 l[j].f0 l[j].f1 l[j].f2 l[j].f3 = some true := by
      intro u h3 hu
      rw [L28_PickUrgent.j1, hwi]
      by_cases hut : u = true
      · have hc' : l[j].f0 ≠ 3 ∧ s = false ∧ cycle ≤ wrap64 (now - l[j].f3) := ⟨h3, hu.1 hut⟩
        rw [if_pos hc', if_pos hc'] at hN
        rw [if_pos hut]
        by_cases ha : (Tk.length : Int) < m
        · rw [if_pos ha, if_pos hbig]
          exact ih (j + 1) k true l[j] _ hj1 h160 (hTx h3 ha).1 (hTx h3 ha).2 hN
        · rw [if_neg ha]
          exact ih (j + 1) k true l[j] _ hj1 h160 hT hTm hN
      · have hc' : ¬ (l[j].f0 ≠ 3 ∧ s = false ∧ cycle ≤ wrap64 (now - l[j].f3)) := fun h => hut (hu.2 h.2)
        rw [if_neg hc', if_neg hc'] at hN
        rw [if_neg hut]
        by_cases ha : (Tk.length : Int) < m
        · rw [if_pos ha, if_pos hbig]
          exact ih (j + 1) k s f _ hj1 h160 (hTx h3 ha).1 (hTx h3 ha).2 hN
        · rw [if_neg ha]
          exact ih (j + 1) k s f _ hj1 h160 hT hTm hN
    rw [L28_PickUrgent.l0, if_pos hlt, if_pos h0, rd_p l j hjl]
    unfold L28_hall.f
    simp only [Option.bind_some]
    by_cases h3 : l[j].f0 = 3
    · have hc' : ¬ (l[j].f0 ≠ 3 ∧ s = false ∧ cycle ≤ wrap64 (now - l[j].f3)) := fun h => h.1 h3
      rw [if_neg hc', if_neg hc'] at hN
      rw [if_neg (by simp [h3]), hwi]
      exact ih (j + 1) (k + 1) s f Tk hj1 h160' hT hTm hN
    · rw [if_pos (by simpa using h3)]
      by_cases hs : s = true
      · rw [if_pos hs]
        exact hstep false h3 (by simp [hs])
      · rw [if_neg hs]
        have hs' : s = false := by simpa using hs
        exact hstep _ h3 (by rw [decide_eq_true_eq]; exact ⟨fun h => ⟨hs', h⟩, fun h => h.2⟩)
end Go.Proofs.Ytmfbpkjhabdcgaa.Pure
end
section
namespace Go.Proofs.Ytmfbpkjhabdcgaa.Pure
open Go.RowKit Go.Proofs.Ytmfbpkjhabdcgaa.F Go.Proofs.YtmfbpkjhabdcgaaW.PrintWords Go.Proofs.YtmfbpkjhabdcgaaW.PrintLast
set_option linter.unusedVariables false
set_option linter.unusedSimpArgs false
theorem PickUrgent : L28_PickUrgent.Pure := by
  intro x0 x1 x2 x3 _ _ _ _ _ _
  obtain ⟨K, hK⟩ : ∃ K : Nat, 1000 ≤ K := ⟨1000, Nat.le_refl _⟩
  refine ⟨K, ?_⟩
  obtain ⟨l, T, car, mode, trip, now, cycle, floor, h1, hM, hA⟩ := madeP_law (k := K) (by omega) x0 x1 x2
  obtain ⟨m, hm, m0, m1⟩ := mod_law x3 9 (by omega) (by omega)
  have hlen := hM.valid.len
  have hc := hA.car
  have ht := hA.trip
  unfold L28_PickUrgent.f
  rw [h1, hm]
  simp only [Option.bind_some]
  rw [trip_even ht]
  exact urgent_loop ⟨hc.1, by omega⟩ ⟨by omega, by omega⟩ (by omega) hA.now hA.cycle hA.floor m ⟨m0, by omega⟩ l hM.valid l.length 0 K false ⟨0, 0, 0, 0⟩ [] (by omega) (by omega) ⟨by simp, fun _ h => (List.not_mem_nil h).elim⟩ (by simp; omega) (by unfold FirstIs; simp)
end Go.Proofs.Ytmfbpkjhabdcgaa.Pure
end
section
/- The statement PickUrgent holds: the law's function answers true at every input, and the input reads as it did. No condition. (Written by fork.py over the kit's print.) -/
namespace Go.Proofs.Ytmfbpkjhabdcgaa.pickUrgent
open Go.ChangeShapes Go.WideShapes Go.ChangeAt Go.RowKit
open Go.ChangeMaps (open_string shut_string)
set_option linter.unusedVariables false
theorem own : ownKnob Try.prog.godebug = none := by kernel_rfl
theorem laidOut : laidOutB Try.prog = true := by kernel_rfl
def IsRow (k : IntKind) (w : World) (a : Option Addr) (len cap : Nat) (zs : List Int) : Prop :=
  (a = none ∧ len = 0 ∧ cap = 0 ∧ zs = []) ∨
  ∃ x, a = some x ∧ len ≤ cap ∧ cap ≤ maxLen ∧ zs.length = cap ∧ (∀ i, i < zs.length → w.cell? (x.add i) = some (.int k (zs.getD i 0))) ∧ ∀ n ∈ zs, (Lit.int k n).wf = true
set_option maxRecDepth 100000 in
theorem lifted (os : Os) (started : os.Started) (H : Type) (enc : TypeId × Value → H) :
    ReturnsInHanded {} Try.checked os 9 .any (Rows.pickUrgentSpec.pre6 enc Try.prog Try.f9 Rows.pickUrgentRow.domain false) (Rows.pickUrgentSpec.post enc Try.prog Try.f9 false true false false) := by
  refine returnsInHanded_of_change_sized (C := Try.checked) own started (by kernel_rfl) Try.func9
    (ChangeSpec.witness6 (enc := enc) (C := Try.checked) false ⟨#[], #[.slice none 0 0, .int .i64 0, .int .i64 0, .int .i64 0], []⟩ 8 (by kernel_rfl) (by kernel_rfl) (by kernel_rfl) (by kernel_rfl)) ?_
  intro W base args ds gs before hval0 hW hcnd hsz0 _
  have hsz : (DataW.weightsEach Try.prog (Try.f9.params.toList ++ Rows.pickUrgentSpec.plain.varTypes Try.prog) (ds ++ gs)).all (· ≤ reachBytes) = true := hsz0
  have hval : ∀ (j : Nat) t v, Try.f9.params[j]? = some t → args[j]? = some v → Value.okWide Try.prog W .any base t v := hval0
  have hW' := hW
  obtain ⟨p, q, hA0, hV, rfl, hfz, hnd⟩ := hW
  have hA : DataW.TrodAll enc Try.prog W 0 (fun _ => true) true Try.f9.params.toList args.toList ds p := hA0
  rw [Try.params9] at hA hval hsz
  obtain ⟨v0, vs0, d0, ds0, p0, q0, hargs, rfl, rfl, h0, r0⟩ := trodAll_cons hA
  obtain ⟨v1, vs1, d1, ds1, p1, q1, rfl, rfl, rfl, h1, r1⟩ := trodAll_cons r0
  obtain ⟨v2, vs2, d2, ds2, p2, q2, rfl, rfl, rfl, h2, r2⟩ := trodAll_cons r1
  obtain ⟨v3, vs3, d3, ds3, p3, q3, rfl, rfl, rfl, h3, r3⟩ := trodAll_cons r2
  obtain ⟨rfl, rfl, rfl⟩ := trodAll_nil r3
  obtain rfl : args = #[v0, v1, v2, v3] := by cases args; simp_all
  obtain ⟨rfl, rfl⟩ := trodVars_none hV
  obtain ⟨a0, len0, cap0, rfl⟩ := okWide_slice Try.underlying22 (hval 0 22 v0 rfl rfl)
  have k0 := h0
  have lt0 : ∀ x ∈ p0, x.block < W.heap.size := by obtain ⟨m, hm⟩ := k0; exact DataW.trod_lt m _ _ _ hm
  obtain ⟨z0, w0⟩ : ∃ zs, IsRow .i64 W a0 len0 cap0 zs := by
    obtain ⟨fuel, hf⟩ := h0
    rcases open_ints Try.underlying22 Try.underlying3 (by kernel_rfl) hf with ⟨hcs, _⟩ | ⟨x, l, c, zs, hcs, _, hl, hm, hz, _, hcell, hwz⟩
    · simp [Value.cells] at hcs
      obtain ⟨rfl, rfl, rfl⟩ := hcs
      exact ⟨[], .inl ⟨rfl, rfl, rfl, rfl⟩⟩
    · simp [Value.cells] at hcs
      obtain ⟨rfl, rfl, rfl⟩ := hcs
      exact ⟨zs, .inr ⟨_, rfl, hl, hm, by simpa using hz, hcell, hwz⟩⟩
  have y0 : len0 * 8 ≤ 140737488351232 := Go.Proofs.YtmfbpkjhabdcgaaW.PrintWords.sized_ints hsz (j := 0) (t := 22) rfl rfl Try.underlying22 Try.underlying3 (by kernel_rfl) (by kernel_rfl) h0
  obtain ⟨a1, rfl, rfl, rfl, w1⟩ := open_int Try.underlying3 (hval 1 3 v1 rfl rfl) h1
  obtain ⟨a2, rfl, rfl, rfl, w2⟩ := open_int Try.underlying3 (hval 2 3 v2 rfl rfl) h2
  obtain ⟨a3, rfl, rfl, rfl, w3⟩ := open_int Try.underlying3 (hval 3 3 v3 rfl rfl) h3
  clear hA0 hval0 hsz0 hsz
  refine (F.L28_PickUrgent.walk Pure.PickUrgent a0 len0 cap0 z0 a1 a2 a3 W w0 y0 w1 w2 w3).mono fun e W' ⟨he, bel⟩ => ?_
  subst he
  exact ⟨_, rfl, _, _, _, [], _, [], hW', trodAll_mk1 (shut_bool Try.underlying4 _), (trodAll_cons_mk (Below.trod laidOut (by kernel_rfl) (of_decide_eq_true (by kernel_rfl)) k0 bel lt0) (trodAll_cons_mk (shut_int Try.underlying3 w1) (trodAll_cons_mk (shut_int Try.underlying3 w2) (trodAll_cons_mk (shut_int Try.underlying3 w3) trodAll_mk0)))), rfl, bel.frame _, fun h => by cases h⟩
theorem over : Rows.pickUrgentRow.holds Try.pinned (OpenSpec.ofChange Rows.pickUrgentSpec) :=
  OpenClaim.holds_of_wide 9 Try.f9 rfl rfl rfl rfl rfl rfl rfl ⟨rfl, rfl, rfl, rfl, rfl⟩ rfl rfl rfl rfl rfl (by kernel_rfl) Try.func9 (by show joinedFacts Try.prog 9 Try.f9 Rows.pickUrgentSpec Rows.pickUrgentRow = true; unfold joinedFacts; rw [may_enter, lifts_not, make_cut]; kernel_rfl)
    (of_decide_eq_true (by kernel_rfl)) (by unfold Func.isWrapper; first | (rw [if_pos (by decide +kernel)]; kernel_rfl) | (rw [if_neg (by decide +kernel)]; exact ⟨rfl, rfl⟩))
    (fun os started H enc _ => lifted os started H enc)
theorem proved : Rows.PickUrgentSaid := over
#print axioms proved
end Go.Proofs.Ytmfbpkjhabdcgaa.pickUrgent
namespace Go.Proofs.Ytmfbpkjhabdcgaa
/-- The row, under a short name, for the claim. -/
theorem pickUrgent_holds : Rows.PickUrgentSaid := pickUrgent.proved
end Go.Proofs.Ytmfbpkjhabdcgaa
end
