/- The statement PickGoals holds: the law's function answers true at every input, and the input reads as it did. No condition. (Written by row.py.) -/
import Derived.Test.YteiehkafkcggeaaRows
import Derived.Test.YteiehkafkcggeaaXHead
import Derived.Test.YteiehkafkcggeaaL7
import Derived.Test.YteiehkafkcggeaaSx22
import Derived.WalkKit
import Derived.ProofKit
import Derived.OpenShut
import Derived.ShutString
import Derived.ChangeOld
import Derived.Below
import Derived.SizedLaws
namespace Go.Proofs.Yteiehkafkcggeaa.pickGoals
open Go.ChangeShapes Go.WideShapes Go.ChangeAt Go.RowKit Go.Sx
set_option linter.unusedVariables false
theorem own : ownKnob Try.prog.godebug = none := by kernel_rfl
theorem laidOut : laidOutB Try.prog = true := by kernel_rfl
theorem opens3 : OpensS Try.prog 3 (.int .i64) := opensS_int Try.underlying3 (by kernel_rfl)
theorem opens31 : OpensS Try.prog 31 (.struct [(.int .i64), (.int .i64), (.int .i64), (.int .i64)]) := opensS_struct Try.underlying31 (by kernel_rfl) (opensFsS_cons rfl opens3 (opensFsS_cons rfl opens3 (opensFsS_cons rfl opens3 (opensFsS_cons rfl opens3 opensFsS_nil))))
theorem opens23 : OpensS Try.prog 23 (.slice (.struct [(.int .i64), (.int .i64), (.int .i64), (.int .i64)])) := opensS_slice (by decide) Try.underlying23 (by kernel_rfl) opens31
theorem opens25 : OpensS Try.prog 25 (.struct [(.int .i64), (.slice (.struct [(.int .i64), (.int .i64), (.int .i64), (.int .i64)]))]) := opensS_struct Try.underlying25 (by kernel_rfl) (opensFsS_cons rfl opens3 (opensFsS_cons rfl opens23 opensFsS_nil))
theorem opens27 : OpensS Try.prog 27 (.struct [(.int .i64), (.int .i64), (.int .i64), (.int .i64), (.int .i64), (.int .i64), (.int .i64), (.int .i64), (.int .i64), (.slice (.struct [(.int .i64), (.int .i64), (.int .i64), (.int .i64)]))]) := opensS_struct Try.underlying27 (by kernel_rfl) (opensFsS_cons rfl opens3 (opensFsS_cons rfl opens3 (opensFsS_cons rfl opens3 (opensFsS_cons rfl opens3 (opensFsS_cons rfl opens3 (opensFsS_cons rfl opens3 (opensFsS_cons rfl opens3 (opensFsS_cons rfl opens3 (opensFsS_cons rfl opens3 (opensFsS_cons rfl opens23 opensFsS_nil))))))))))
set_option maxRecDepth 100000 in
theorem lifted (os : Os) (started : os.Started) (H : Type) (enc : TypeId × Value → H) :
    ReturnsInHanded {} Try.checked os 7 .any (Rows.pickGoalsSpec.pre6 enc Try.prog Try.f7 Rows.pickGoalsRow.domain false) (Rows.pickGoalsSpec.post enc Try.prog Try.f7 false true false false) := by
  refine returnsInHanded_of_change_sized (C := Try.checked) own started (by kernel_rfl) Try.func7
    (ChangeSpec.witness6 (enc := enc) (C := Try.checked) false ⟨#[], #[.agg #[.int .i64 0, .slice none 0 0], .agg #[.int .i64 0, .int .i64 0, .int .i64 0, .int .i64 0, .int .i64 0, .int .i64 0, .int .i64 0, .int .i64 0, .int .i64 0, .slice none 0 0]], []⟩ 8 (by kernel_rfl) (by kernel_rfl) (by kernel_rfl) (by kernel_rfl)) ?_
  intro W base args ds gs before hval0 hW hcnd hsz0 _
  have hval : ∀ (j : Nat) t v, Try.f7.params[j]? = some t → args[j]? = some v → Value.okWide Try.prog W .any base t v := hval0
  have hW' := hW
  obtain ⟨p, q, hA0, hV, rfl, hfz, hnd⟩ := hW
  have hA : DataW.TrodAll enc Try.prog W 0 (fun _ => true) true Try.f7.params.toList args.toList ds p := hA0
  rw [Try.params7] at hA hval
  obtain ⟨v0, vs0, d0, ds0, p0, q0, hargs, rfl, rfl, h0, r0⟩ := trodAll_cons hA
  obtain ⟨v1, vs1, d1, ds1, p1, q1, rfl, rfl, rfl, h1, r1⟩ := trodAll_cons r0
  obtain ⟨rfl, rfl, rfl⟩ := trodAll_nil r1
  obtain rfl : args = #[v0, v1] := by cases args; simp_all
  obtain ⟨rfl, rfl⟩ := trodVars_none hV
  have lt0 : ∀ x ∈ p0, x.block < W.heap.size := by obtain ⟨m, hm⟩ := h0; exact DataW.trod_lt m _ _ _ hm
  have lt1 : ∀ x ∈ p1, x.block < W.heap.size := by obtain ⟨m, hm⟩ := h1; exact DataW.trod_lt m _ _ _ hm
  obtain ⟨y0, K0, g0⟩ := opens25.arg (.inl ⟨_, Try.underlying25⟩) (hval 0 25 v0 rfl rfl) h0
  obtain ⟨y1, K1, g1⟩ := opens27.arg (.inl ⟨_, Try.underlying27⟩) (hval 1 27 v1 rfl rfl) h1
  clear hA0 hval0 hsz0
  refine (law_of Go.Sx.Yteiehkafkcggeaa.law7 (w := W) (args := #[v0, v1]) (y0, y1, ()) (by simp only [Kds.wf]; exact ⟨g0, g1, trivial⟩) rfl (by simp only [encArgs, VRs]; exact ⟨v0, _, rfl, K0, v1, _, rfl, K1, rfl⟩)).mono fun e W' ⟨he, bel⟩ => ?_
  subst he
  exact ⟨_, rfl, _, _, _, [], _, [], hW', trodAll_mk1 (shut_bool Try.underlying4 _), (trodAll_cons_mk (Below.trod laidOut (by kernel_rfl) (of_decide_eq_true (by kernel_rfl)) h0 bel lt0) (trodAll_cons_mk (Below.trod laidOut (by kernel_rfl) (of_decide_eq_true (by kernel_rfl)) h1 bel lt1) trodAll_mk0)), rfl, bel.frame _, fun h => by cases h⟩
theorem over : Rows.pickGoalsRow.holds Try.pinned (OpenSpec.ofChange Rows.pickGoalsSpec) :=
  OpenClaim.holds_of_wide 7 Try.f7 rfl rfl rfl rfl rfl rfl rfl ⟨rfl, rfl, rfl, rfl, rfl⟩ rfl rfl rfl rfl rfl (by kernel_rfl) Try.func7 (by show joinedFacts Try.prog 7 Try.f7 Rows.pickGoalsSpec Rows.pickGoalsRow = true; unfold joinedFacts; rw [may_enter, lifts_not, make_cut]; kernel_rfl)
    (of_decide_eq_true (by kernel_rfl)) (by unfold Func.isWrapper; first | (rw [if_pos (by decide +kernel)]; kernel_rfl) | (rw [if_neg (by decide +kernel)]; exact ⟨rfl, rfl⟩))
    (fun os started H enc _ => lifted os started H enc)
theorem proved : Rows.PickGoalsSaid := over
#print axioms proved
end Go.Proofs.Yteiehkafkcggeaa.pickGoals
namespace Go.Proofs.Yteiehkafkcggeaa
/-- The row, under a short name, for the claim. -/
theorem pickGoals_holds : Rows.PickGoalsSaid := pickGoals.proved
end Go.Proofs.Yteiehkafkcggeaa
