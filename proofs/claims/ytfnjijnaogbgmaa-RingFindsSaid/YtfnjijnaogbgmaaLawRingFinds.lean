/- The statement RingFinds holds: the law's function answers true at every input, and the input reads as it did. No condition. (Written by row.py.) -/
import Derived.Test.YtfnjijnaogbgmaaRows
import Derived.Test.YtfnjijnaogbgmaaXHead
import Derived.Test.YtfnjijnaogbgmaaR11
import Derived.Test.YtfnjijnaogbgmaaSx22
import Derived.WalkKit
import Derived.ProofKit
import Derived.OpenShut
import Derived.ShutString
import Derived.ChangeOld
import Derived.Below
import Derived.SizedLaws
namespace Go.Proofs.Ytfnjijnaogbgmaa.ringFinds
open Go.ChangeShapes Go.WideShapes Go.ChangeAt Go.RowKit Go.Sx
set_option linter.unusedVariables false
theorem own : ownKnob Try.prog.godebug = none := by kernel_rfl
theorem laidOut : laidOutB Try.prog = true := by kernel_rfl
theorem opens3 : OpensS Try.prog 3 (.int .i64) := opensS_int Try.underlying3 (by kernel_rfl)
theorem opens22 : OpensS Try.prog 22 (.slice (.int .i64)) := opensS_slice (by decide) Try.underlying22 (by kernel_rfl) opens3
set_option maxRecDepth 100000 in
theorem lifted (os : Os) (started : os.Started) (H : Type) (enc : TypeId × Value → H) :
    ReturnsInHanded {} Try.checked os 3 .any (Rows.ringFindsSpec.pre6 enc Try.prog Try.f3 Rows.ringFindsRow.domain false) (Rows.ringFindsSpec.post enc Try.prog Try.f3 false true false false) := by
  refine returnsInHanded_of_change_sized (C := Try.checked) own started (by kernel_rfl) Try.func3
    (ChangeSpec.witness6 (enc := enc) (C := Try.checked) false ⟨#[], #[.int .i64 0, .slice none 0 0, .int .i64 0, .int .i64 0], []⟩ 8 (by kernel_rfl) (by kernel_rfl) (by kernel_rfl) (by kernel_rfl)) ?_
  intro W base args ds gs before hval0 hW hcnd hsz0 _
  have hval : ∀ (j : Nat) t v, Try.f3.params[j]? = some t → args[j]? = some v → Value.okWide Try.prog W .any base t v := hval0
  have hW' := hW
  obtain ⟨p, q, hA0, hV, rfl, hfz, hnd⟩ := hW
  have hA : DataW.TrodAll enc Try.prog W 0 (fun _ => true) true Try.f3.params.toList args.toList ds p := hA0
  rw [Try.params3] at hA hval
  obtain ⟨v0, vs0, d0, ds0, p0, q0, hargs, rfl, rfl, h0, r0⟩ := trodAll_cons hA
  obtain ⟨v1, vs1, d1, ds1, p1, q1, rfl, rfl, rfl, h1, r1⟩ := trodAll_cons r0
  obtain ⟨v2, vs2, d2, ds2, p2, q2, rfl, rfl, rfl, h2, r2⟩ := trodAll_cons r1
  obtain ⟨v3, vs3, d3, ds3, p3, q3, rfl, rfl, rfl, h3, r3⟩ := trodAll_cons r2
  obtain ⟨rfl, rfl, rfl⟩ := trodAll_nil r3
  obtain rfl : args = #[v0, v1, v2, v3] := by cases args; simp_all
  obtain ⟨rfl, rfl⟩ := trodVars_none hV
  have lt0 : ∀ x ∈ p0, x.block < W.heap.size := by obtain ⟨m, hm⟩ := h0; exact DataW.trod_lt m _ _ _ hm
  have lt1 : ∀ x ∈ p1, x.block < W.heap.size := by obtain ⟨m, hm⟩ := h1; exact DataW.trod_lt m _ _ _ hm
  have lt2 : ∀ x ∈ p2, x.block < W.heap.size := by obtain ⟨m, hm⟩ := h2; exact DataW.trod_lt m _ _ _ hm
  have lt3 : ∀ x ∈ p3, x.block < W.heap.size := by obtain ⟨m, hm⟩ := h3; exact DataW.trod_lt m _ _ _ hm
  obtain ⟨y0, K0, g0⟩ := opens3.arg (noAgg (by rw [Try.underlying3]; trivial)) (hval 0 3 v0 rfl rfl) h0
  obtain ⟨y1, K1, g1⟩ := opens22.arg (noAgg (by rw [Try.underlying22]; trivial)) (hval 1 22 v1 rfl rfl) h1
  obtain ⟨y2, K2, g2⟩ := opens3.arg (noAgg (by rw [Try.underlying3]; trivial)) (hval 2 3 v2 rfl rfl) h2
  obtain ⟨y3, K3, g3⟩ := opens3.arg (noAgg (by rw [Try.underlying3]; trivial)) (hval 3 3 v3 rfl rfl) h3
  clear hA0 hval0 hsz0
  refine (law_of Go.Sx.Ytfnjijnaogbgmaa.law3 (w := W) (args := #[v0, v1, v2, v3]) (y0, y1, y2, y3, ()) (by simp only [Kds.wf]; exact ⟨g0, g1, g2, g3, trivial⟩) rfl (by simp only [encArgs, VRs]; exact ⟨v0, _, rfl, K0, v1, _, rfl, K1, v2, _, rfl, K2, v3, _, rfl, K3, rfl⟩)).mono fun e W' ⟨he, bel⟩ => ?_
  subst he
  exact ⟨_, rfl, _, _, _, [], _, [], hW', trodAll_mk1 (shut_bool Try.underlying4 _), (trodAll_cons_mk (Below.trod laidOut (by kernel_rfl) (of_decide_eq_true (by kernel_rfl)) h0 bel lt0) (trodAll_cons_mk (Below.trod laidOut (by kernel_rfl) (of_decide_eq_true (by kernel_rfl)) h1 bel lt1) (trodAll_cons_mk (Below.trod laidOut (by kernel_rfl) (of_decide_eq_true (by kernel_rfl)) h2 bel lt2) (trodAll_cons_mk (Below.trod laidOut (by kernel_rfl) (of_decide_eq_true (by kernel_rfl)) h3 bel lt3) trodAll_mk0)))), rfl, bel.frame _, fun h => by cases h⟩
theorem over : Rows.ringFindsRow.holds Try.pinned (OpenSpec.ofChange Rows.ringFindsSpec) :=
  OpenClaim.holds_of_wide 3 Try.f3 rfl rfl rfl rfl rfl rfl rfl ⟨rfl, rfl, rfl, rfl, rfl⟩ rfl rfl rfl rfl rfl (by kernel_rfl) Try.func3 (by show joinedFacts Try.prog 3 Try.f3 Rows.ringFindsSpec Rows.ringFindsRow = true; unfold joinedFacts; rw [may_enter, lifts_not, make_cut]; kernel_rfl)
    (of_decide_eq_true (by kernel_rfl)) (by unfold Func.isWrapper; first | (rw [if_pos (by decide +kernel)]; kernel_rfl) | (rw [if_neg (by decide +kernel)]; exact ⟨rfl, rfl⟩))
    (fun os started H enc _ => lifted os started H enc)
theorem proved : Rows.RingFindsSaid := over
#print axioms proved
end Go.Proofs.Ytfnjijnaogbgmaa.ringFinds
namespace Go.Proofs.Ytfnjijnaogbgmaa
/-- The row, under a short name, for the claim. -/
theorem ringFinds_holds : Rows.RingFindsSaid := ringFinds.proved
end Go.Proofs.Ytfnjijnaogbgmaa
