/- The statement AssignServes holds: the law's function answers true at every input, and the input reads as it did. No condition. (Written by row.py.) -/
import Derived.Test.YtaijdhocmjnopaaRows
import Derived.Test.YtaijdhocmjnopaaXHead
import Derived.Test.YtaijdhocmjnopaaW3
import Derived.Test.YtaijdhocmjnopaaSx22
import Derived.WalkKit
import Derived.ProofKit
import Derived.OpenShut
import Derived.ShutString
import Derived.ChangeOld
import Derived.Below
import Derived.SizedLaws
namespace Go.Proofs.Ytaijdhocmjnopaa.assignServes
open Go.ChangeShapes Go.WideShapes Go.ChangeAt Go.RowKit Go.Sx
set_option linter.unusedVariables false
theorem own : ownKnob Try.prog.godebug = none := by kernel_rfl
theorem laidOut : laidOutB Try.prog = true := by kernel_rfl
theorem opens3 : OpensS Try.prog 3 (.int .i64) := opensS_int Try.underlying3 (by kernel_rfl)
theorem opens22 : OpensS Try.prog 22 (.slice (.int .i64)) := opensS_slice (by decide) Try.underlying22 (by kernel_rfl) opens3
set_option maxRecDepth 100000 in
theorem lifted (os : Os) (started : os.Started) (H : Type) (enc : TypeId × Value → H) :
    ReturnsInHanded {} Try.checked os 3 .any (Rows.assignServesSpec.pre6 enc Try.prog Try.f3 Rows.assignServesRow.domain false) (Rows.assignServesSpec.post enc Try.prog Try.f3 false true false false) := by
  refine returnsInHanded_of_change_sized (C := Try.checked) own started (by kernel_rfl) Try.func3
    (ChangeSpec.witness6 (enc := enc) (C := Try.checked) false ⟨#[], #[.slice none 0 0, .int .i64 0], []⟩ 8 (by kernel_rfl) (by kernel_rfl) (by kernel_rfl) (by kernel_rfl)) ?_
  intro W base args ds gs before hval0 hW hcnd hsz0 _
  have hval : ∀ (j : Nat) t v, Try.f3.params[j]? = some t → args[j]? = some v → Value.okWide Try.prog W .any base t v := hval0
  have hW' := hW
  obtain ⟨p, q, hA0, hV, rfl, hfz, hnd⟩ := hW
  have hA : DataW.TrodAll enc Try.prog W 0 (fun _ => true) true Try.f3.params.toList args.toList ds p := hA0
  rw [Try.params3] at hA hval
  obtain ⟨v0, vs0, d0, ds0, p0, q0, hargs, rfl, rfl, h0, r0⟩ := trodAll_cons hA
  obtain ⟨v1, vs1, d1, ds1, p1, q1, rfl, rfl, rfl, h1, r1⟩ := trodAll_cons r0
  obtain ⟨rfl, rfl, rfl⟩ := trodAll_nil r1
  obtain rfl : args = #[v0, v1] := by cases args; simp_all
  obtain ⟨rfl, rfl⟩ := trodVars_none hV
  have lt0 : ∀ x ∈ p0, x.block < W.heap.size := by obtain ⟨m, hm⟩ := h0; exact DataW.trod_lt m _ _ _ hm
  have lt1 : ∀ x ∈ p1, x.block < W.heap.size := by obtain ⟨m, hm⟩ := h1; exact DataW.trod_lt m _ _ _ hm
  obtain ⟨y0, K0, g0⟩ := opens22.arg (noAgg (by rw [Try.underlying22]; trivial)) (hval 0 22 v0 rfl rfl) h0
  obtain ⟨y1, K1, g1⟩ := opens3.arg (noAgg (by rw [Try.underlying3]; trivial)) (hval 1 3 v1 rfl rfl) h1
  clear hA0 hval0 hsz0
  refine (law_of Go.Sx.Ytaijdhocmjnopaa.law3 (w := W) (args := #[v0, v1]) (y0, y1, ()) (by simp only [Kds.wf]; exact ⟨g0, g1, trivial⟩) rfl (by simp only [encArgs, VRs]; exact ⟨v0, _, rfl, K0, v1, _, rfl, K1, rfl⟩)).mono fun e W' ⟨he, bel⟩ => ?_
  subst he
  exact ⟨_, rfl, _, _, _, [], _, [], hW', trodAll_mk1 (shut_bool Try.underlying4 _), (trodAll_cons_mk (Below.trod laidOut (by kernel_rfl) (of_decide_eq_true (by kernel_rfl)) h0 bel lt0) (trodAll_cons_mk (Below.trod laidOut (by kernel_rfl) (of_decide_eq_true (by kernel_rfl)) h1 bel lt1) trodAll_mk0)), rfl, bel.frame _, fun h => by cases h⟩
theorem over : Rows.assignServesRow.holds Try.pinned (OpenSpec.ofChange Rows.assignServesSpec) :=
  OpenClaim.holds_of_wide 3 Try.f3 rfl rfl rfl rfl rfl rfl rfl ⟨rfl, rfl, rfl, rfl, rfl⟩ rfl rfl rfl rfl rfl (by kernel_rfl) Try.func3 (by show joinedFacts Try.prog 3 Try.f3 Rows.assignServesSpec Rows.assignServesRow = true; unfold joinedFacts; rw [may_enter, lifts_not, make_cut]; kernel_rfl)
    (of_decide_eq_true (by kernel_rfl)) (by unfold Func.isWrapper; first | (rw [if_pos (by decide +kernel)]; kernel_rfl) | (rw [if_neg (by decide +kernel)]; exact ⟨rfl, rfl⟩))
    (fun os started H enc _ => lifted os started H enc)
theorem proved : Rows.AssignServesSaid := over
#print axioms proved
end Go.Proofs.Ytaijdhocmjnopaa.assignServes
namespace Go.Proofs.Ytaijdhocmjnopaa
/-- The row, under a short name, for the claim. -/
theorem assignServes_holds : Rows.AssignServesSaid := assignServes.proved
end Go.Proofs.Ytaijdhocmjnopaa
