/- The statement KeyStretches holds: the law's function answers true at every input, and the input reads as it did. No condition. (The row by hand: its parameters are structs.) -/
import Derived.Test.YtlcghmfkgblheaaRows
import Derived.Test.YtlcghmfkgblheaaF11
import Derived.Test.YtlcghmfkgblheaaXOpen
import Derived.Test.YtlcghmfkgblheaaPureKeyStretches
import Derived.WalkKit
import Derived.ProofKit
import Derived.OpenShut
import Derived.ShutString
import Derived.ChangeOld
import Derived.Below
import Derived.SizedLaws
namespace Go.Proofs.Ytlcghmfkgblheaa.keyStretches
open Go.ChangeShapes Go.WideShapes Go.ChangeAt Go.RowKit
open Go.ChangeMaps (open_string shut_string)
set_option linter.unusedVariables false
theorem own : ownKnob Try.prog.godebug = none := by kernel_rfl
theorem laidOut : laidOutB Try.prog = true := by kernel_rfl
theorem opens24 : F.Opens Try.prog 24 F.k24 (fun x : F.S24 => (∀ y ∈ x.f0, (Lit.int .i64 y).wf = true) ∧ (Lit.int .i64 x.f1).wf = true ∧ (Lit.int .i64 x.f2).wf = true) := by
  have h := F.opens_struct (fun x : F.S24 => (x.f0, x.f1, x.f2)) (fun y => ⟨y.1, y.2.1, y.2.2⟩) (fun _ => rfl) Try.underlying24 (by kernel_rfl)
    (F.opensFs_cons rfl (F.opens_slice Try.underlying22 (by kernel_rfl) (F.opens_int Try.underlying3 (by kernel_rfl))) (F.opensFs_cons rfl (F.opens_int Try.underlying3 (by kernel_rfl)) (F.opensFs_one rfl (F.opens_int Try.underlying3 (by kernel_rfl)))))
  exact h
theorem opens37 : F.Opens Try.prog 37 F.k37 (fun x : F.S37 => (Lit.int .i64 x.f0).wf = true ∧ (Lit.int .i64 x.f1).wf = true) := by
  have h := F.opens_struct (fun x : F.S37 => (x.f0, x.f1)) (fun y => ⟨y.1, y.2⟩) (fun _ => rfl) Try.underlying37 (by kernel_rfl)
    (F.opensFs_cons rfl (F.opens_int Try.underlying3 (by kernel_rfl)) (F.opensFs_one rfl (F.opens_int Try.underlying3 (by kernel_rfl))))
  exact h
open Go.Proofs.YtlcghmfkgblheaaW.PrintWords in
theorem opens46 : F.Opens Try.prog 46 (Kd.iso (Kd.pair (Kd.int .i64) (Kd.int .i64)) (fun x : Int × Int => x)) (fun x : Int × Int => (Lit.int .i64 x.1).wf = true ∧ (Lit.int .i64 x.2).wf = true) := by
  have h := F.opens_struct (fun x : Int × Int => x) (fun y => y) (fun _ => rfl) Try.underlying46 (by kernel_rfl)
    (F.opensFs_cons rfl (F.opens_int Try.underlying3 (by kernel_rfl)) (F.opensFs_one rfl (F.opens_int Try.underlying3 (by kernel_rfl))))
  exact h
set_option maxRecDepth 100000 in
theorem lifted (os : Os) (started : os.Started) (H : Type) (enc : TypeId × Value → H) :
    ReturnsInHanded {} Try.checked os 4 .any (Rows.keyStretchesSpec.pre6 enc Try.prog Try.f4 Rows.keyStretchesRow.domain false) (Rows.keyStretchesSpec.post enc Try.prog Try.f4 false true false false) := by
  refine returnsInHanded_of_change_sized (C := Try.checked) own started (by kernel_rfl) Try.func4
    (ChangeSpec.witness6 (enc := enc) (C := Try.checked) false ⟨#[], #[.agg #[.slice none 0 0, .int .i64 0, .int .i64 0], .slice none 0 0, .agg #[.int .i64 0, .int .i64 0]], []⟩ 8 (by kernel_rfl) (by kernel_rfl) (by kernel_rfl) (by kernel_rfl)) ?_
  intro W base args ds gs before hval0 hW hcnd hsz0 _
  have hsz : (DataW.weightsEach Try.prog (Try.f4.params.toList ++ Rows.keyStretchesSpec.plain.varTypes Try.prog) (ds ++ gs)).all (· ≤ reachBytes) = true := hsz0
  have hval : ∀ (j : Nat) t v, Try.f4.params[j]? = some t → args[j]? = some v → Value.okWide Try.prog W .any base t v := hval0
  have hW' := hW
  obtain ⟨p, q, hA0, hV, rfl, hfz, hnd⟩ := hW
  have hA : DataW.TrodAll enc Try.prog W 0 (fun _ => true) true Try.f4.params.toList args.toList ds p := hA0
  rw [Try.params4] at hA hval hsz
  obtain ⟨v0, vs0, d0, ds0, p0, q0, hargs, rfl, rfl, h0, r0⟩ := trodAll_cons hA
  obtain ⟨v1, vs1, d1, ds1, p1, q1, rfl, rfl, rfl, h1, r1⟩ := trodAll_cons r0
  obtain ⟨v2, vs2, d2, ds2, p2, q2, rfl, rfl, rfl, h2, r2⟩ := trodAll_cons r1
  obtain ⟨rfl, rfl, rfl⟩ := trodAll_nil r2
  obtain rfl : args = #[v0, v1, v2] := by cases args; simp_all
  obtain ⟨rfl, rfl⟩ := trodVars_none hV
  have lt0 : ∀ x ∈ p0, x.block < W.heap.size := by obtain ⟨m, hm⟩ := h0; exact DataW.trod_lt m _ _ _ hm
  have lt1 : ∀ x ∈ p1, x.block < W.heap.size := by obtain ⟨m, hm⟩ := h1; exact DataW.trod_lt m _ _ _ hm
  have lt2 : ∀ x ∈ p2, x.block < W.heap.size := by obtain ⟨m, hm⟩ := h2; exact DataW.trod_lt m _ _ _ hm
  obtain ⟨cs0, rfl, _⟩ := okWide_struct Try.underlying24 (hval 0 24 v0 rfl rfl)
  obtain ⟨y0, K0, _⟩ := opens24.arg h0
  obtain ⟨A0, c0, e0, l0, g0⟩ := F.k24_open K0
  obtain rfl : cs0 = #[.slice A0 y0.f0.length c0, .int .i64 y0.f1, .int .i64 y0.f2] := Array.toList_inj.1 e0
  obtain ⟨a1, len1, cap1, rfl⟩ := okWide_slice Try.underlying29 (hval 1 29 v1 rfl rfl)
  obtain ⟨y1, ⟨A1, c1, e1, l1, g1⟩, _⟩ := (F.opens_slice Try.underlying29 (by kernel_rfl) opens37).arg h1
  have e1' : Value.slice a1 len1 cap1 = Value.slice A1 y1.length c1 := List.singleton_inj.1 e1
  obtain ⟨rfl, rfl, rfl⟩ := Value.slice.inj e1'
  obtain ⟨cs2, rfl, _⟩ := okWide_struct Try.underlying46 (hval 2 46 v2 rfl rfl)
  obtain ⟨y2, K2, _⟩ := opens46.arg h2
  obtain ⟨_, _, e2, rfl, rfl⟩ := K2
  obtain rfl : cs2 = #[.int .i64 y2.1, .int .i64 y2.2] := Array.toList_inj.1 e2
  clear hA0 hval0 hsz0 hsz
  refine (F.L22_KeyStretches.calls 5000 _ _ y0.f0 y0.f1 y0.f2 _ _ y1 y2.1 y2.2 true W g0 l0 g1 l1 (Pure.KeyStretches _ _ _ _ _ _)).mono fun e W' ⟨he, bel⟩ => ?_
  subst he
  exact ⟨_, rfl, _, _, _, [], _, [], hW', trodAll_mk1 (shut_bool Try.underlying4 _), (trodAll_cons_mk (Below.trod laidOut (by kernel_rfl) (of_decide_eq_true (by kernel_rfl)) h0 bel lt0) (trodAll_cons_mk (Below.trod laidOut (by kernel_rfl) (of_decide_eq_true (by kernel_rfl)) h1 bel lt1) (trodAll_cons_mk (Below.trod laidOut (by kernel_rfl) (of_decide_eq_true (by kernel_rfl)) h2 bel lt2) trodAll_mk0))), rfl, bel.frame _, fun h => by cases h⟩
theorem over : Rows.keyStretchesRow.holds Try.pinned (OpenSpec.ofChange Rows.keyStretchesSpec) :=
  OpenClaim.holds_of_wide 4 Try.f4 rfl rfl rfl rfl rfl rfl rfl ⟨rfl, rfl, rfl, rfl, rfl⟩ rfl rfl rfl rfl rfl (by kernel_rfl) Try.func4 (by kernel_rfl)
    (of_decide_eq_true (by kernel_rfl)) (by unfold Func.isWrapper; first | (rw [if_pos (by decide +kernel)]; kernel_rfl) | (rw [if_neg (by decide +kernel)]; exact ⟨rfl, rfl⟩))
    (fun os started H enc _ => lifted os started H enc)
theorem proved : Rows.KeyStretchesSaid := over
#print axioms proved
end Go.Proofs.Ytlcghmfkgblheaa.keyStretches
namespace Go.Proofs.Ytlcghmfkgblheaa
/-- The row, under a short name, for the claim. -/
theorem keyStretches_holds : Rows.KeyStretchesSaid := keyStretches.proved
end Go.Proofs.Ytlcghmfkgblheaa
